/-
  Part 3 of the proof that FnExactBranchOf returns true for every input: the functions that it reaches, each with its contract, and the law.
  Conditions: those of the given statement, no others.
-/
import Derived.Test.YtfhffcefpnkllaaDoorCFnExactBranchOfW0
import Derived.Test.YtfhffcefpnkllaaDoorCFnExactBranchOf0
import Derived.Test.YtfhffcefpnkllaaDoorCFnExactBranchOf1
set_option linter.unusedVariables false
set_option linter.unusedSimpArgs false
set_option maxHeartbeats 8000000
set_option maxRecDepth 100000
namespace Go.Proofs.YtfhffcefpnkllaaDoor.P
open Go.RowKit Go.Proofs.YtfhffcefpnkllaaDoorW.PrintWords Go.Proofs.YtfhffcefpnkllaaDoorW.PrintLast Go.Proofs.YtfhffcefpnkllaaDoorW.PrintMore
open List renaming setIfInBounds_toArray → sA_, set_cons_zero → sB_, set_cons_succ → sC_, map_toArray → sD_, map_cons → sE_, map_nil → sF_, length_drop → sG_, length_take → sH_
open Bool renaming true → ty, false → fy
open Aside0 renaming mk → aM_
attribute [local go_sem] max2_int min2_int max_two min_two max_three min_three max_four min_four
mutual
def impl_trieOf.l0 : Nat → List ByteArray → List ByteArray → List ByteArray → Int → Int → Option ((List (S73)))
 | 0, _, _, _, _, _ => none
 | k + 1, x0, x3, x15, x16, x17 => if x17 < x16 then (if 0 ≤ x17 then (if x17 < (x15.length : Int) then (impl_trieOf.l1 k x0 x3 (rdOf ByteArray.empty x15 x17) x15 x16 x17 ((rdOf ByteArray.empty x15 x17).size : Int) 0) else (none)) else (none)) else ((impl_set.f x3).bind fun t326 => (if SM.okL t326 = true then (impl_trieOf.l2 k x0 t326 (t326.length : Int) 0 ([] : List (S73))) else none))
def impl_trieOf.l1 : Nat → List ByteArray → List ByteArray → ByteArray → List ByteArray → Int → Int → Int → Int → Option ((List (S73)))
 | 0, _, _, _, _, _, _, _, _ => none
 | k + 1, x0, x3, x5, x15, x16, x17, x22, x23 => if x23 < x22 then (if 0 ≤ (wrap64 (x23 + 1)) then (if (wrap64 (x23 + 1)) ≤ (x5.size : Int) then (if x3.length < 8796093022208 then (impl_trieOf.l1 k x0 (x3 ++ [x5.extract 0 ((wrap64 (x23 + 1)) : Int).toNat]) x5 x15 x16 x17 x22 (wrap64 (x23 + 1))) else (none)) else (none)) else (none)) else (impl_trieOf.l0 k x0 x3 x15 x16 (wrap64 (x17 + 1)))
def impl_trieOf.l2 : Nat → List ByteArray → List ByteArray → Int → Int → List (S73) → Option ((List (S73)))
 | 0, _, _, _, _, _ => none
 | k + 1, x0, x39, x40, x41, x330000 => if x41 < x40 then (if 0 ≤ x41 then (if x41 < (x39.length : Int) then ((slices_BinarySearch_string_string.f k x0 (rdOf ByteArray.empty x39 x41)).bind fun bt331 => (if (rdOf ByteArray.empty x39 x41).toList = ([] : List UInt8) then (if x330000.length < 5864062014805 then (impl_trieOf.l2 k x0 x39 x40 (wrap64 (x41 + 1)) (x330000 ++ [(⟨(-1), (-1), bt331.2⟩ : S73)])) else (none)) else (if 0 ≤ (wrap64 (((rdOf ByteArray.empty x39 x41).size : Int) - 1)) then (if (wrap64 (((rdOf ByteArray.empty x39 x41).size : Int) - 1)) < ((rdOf ByteArray.empty x39 x41).size : Int) then (if (wrap64 (((rdOf ByteArray.empty x39 x41).size : Int) - 1)) ≤ ((rdOf ByteArray.empty x39 x41).size : Int) then (if x330000.length < 5864062014805 then (impl_trieOf.l2 k x0 x39 x40 (wrap64 (x41 + 1)) (x330000 ++ [(⟨((bt (rdOf ByteArray.empty x39 x41) (wrap64 (((rdOf ByteArray.empty x39 x41).size : Int) - 1))) - 97) % 256, SM.at_ (List.take ((x41 : Int).toNat + 1) x39) ((rdOf ByteArray.empty x39 x41).extract 0 ((wrap64 (((rdOf ByteArray.empty x39 x41).size : Int) - 1)) : Int).toNat), bt331.2⟩ : S73)])) else (none)) else (none)) else (none)) else (none)))) else (none)) else (none)) else (some x330000)
end
def impl_trieOf.f (k : Nat) (l0 : List ByteArray) : Option ((List (S73))) := impl_trieOf.l0 k l0 (([(⟨#[]⟩ : ByteArray)] : List ByteArray)) l0 (l0.length : Int) 0
theorem impl_trieOf.mono_l : ∀ k, (∀ y0 y1 y2 y3 y4, LeO (impl_trieOf.l0 k y0 y1 y2 y3 y4) (impl_trieOf.l0 (k + 1) y0 y1 y2 y3 y4)) ∧ (∀ y0 y1 y2 y3 y4 y5 y6 y7, LeO (impl_trieOf.l1 k y0 y1 y2 y3 y4 y5 y6 y7) (impl_trieOf.l1 (k + 1) y0 y1 y2 y3 y4 y5 y6 y7)) ∧ (∀ y0 y1 y2 y3 y4, LeO (impl_trieOf.l2 k y0 y1 y2 y3 y4) (impl_trieOf.l2 (k + 1) y0 y1 y2 y3 y4))
 | 0 => ⟨fun _ _ _ _ _ r h => by simp [impl_trieOf.l0] at h, fun _ _ _ _ _ _ _ _ r h => by simp [impl_trieOf.l1] at h, fun _ _ _ _ _ r h => by simp [impl_trieOf.l2] at h⟩
 | k + 1 => by
  obtain ⟨ih0, ih1, ih2⟩ := impl_trieOf.mono_l k
  refine ⟨?_, ?_, ?_⟩
  ·
   intro y0 y1 y2 y3 y4
   unfold impl_trieOf.l0
   repeat' first
   | (with_reducible exact ih0 _ _ _ _ _)
   | (with_reducible exact ih1 _ _ _ _ _ _ _ _)
   | (with_reducible exact ih2 _ _ _ _ _)
   | (with_reducible exact slices_BinarySearch_string_string.mono _ _ _)
   | (with_reducible exact LeO.refl _)
   | (with_reducible exact LeO.none _)
   | (with_reducible refine LeO.ite ?_ ?_)
   | (with_reducible refine LeO.bind ?_ (fun _ => ?_))
   | exact ih0 _ _ _ _ _
   | exact ih1 _ _ _ _ _ _ _ _
   | exact ih2 _ _ _ _ _
   | exact slices_BinarySearch_string_string.mono _ _ _
   | exact LeO.none _
   | refine LeO.ite ?_ ?_
   | refine LeO.bind ?_ (fun _ => ?_)
  ·
   intro y0 y1 y2 y3 y4 y5 y6 y7
   unfold impl_trieOf.l1
   repeat' first
   | (with_reducible exact ih0 _ _ _ _ _)
   | (with_reducible exact ih1 _ _ _ _ _ _ _ _)
   | (with_reducible exact ih2 _ _ _ _ _)
   | (with_reducible exact slices_BinarySearch_string_string.mono _ _ _)
   | (with_reducible exact LeO.refl _)
   | (with_reducible exact LeO.none _)
   | (with_reducible refine LeO.ite ?_ ?_)
   | (with_reducible refine LeO.bind ?_ (fun _ => ?_))
   | exact ih0 _ _ _ _ _
   | exact ih1 _ _ _ _ _ _ _ _
   | exact ih2 _ _ _ _ _
   | exact slices_BinarySearch_string_string.mono _ _ _
   | exact LeO.none _
   | refine LeO.ite ?_ ?_
   | refine LeO.bind ?_ (fun _ => ?_)
  ·
   intro y0 y1 y2 y3 y4
   unfold impl_trieOf.l2
   repeat' first
   | (with_reducible exact ih0 _ _ _ _ _)
   | (with_reducible exact ih1 _ _ _ _ _ _ _ _)
   | (with_reducible exact ih2 _ _ _ _ _)
   | (with_reducible exact slices_BinarySearch_string_string.mono _ _ _)
   | (with_reducible exact LeO.refl _)
   | (with_reducible exact LeO.none _)
   | (with_reducible refine LeO.ite ?_ ?_)
   | (with_reducible refine LeO.bind ?_ (fun _ => ?_))
   | exact ih0 _ _ _ _ _
   | exact ih1 _ _ _ _ _ _ _ _
   | exact ih2 _ _ _ _ _
   | exact slices_BinarySearch_string_string.mono _ _ _
   | exact LeO.none _
   | refine LeO.ite ?_ ?_
   | refine LeO.bind ?_ (fun _ => ?_)
theorem impl_trieOf.mono : ∀ a0 k, LeO (impl_trieOf.f k a0) (impl_trieOf.f (k + 1) a0) := by
 intro a0 k
 obtain ⟨ih0, ih1, ih2⟩ := impl_trieOf.mono_l k
 unfold impl_trieOf.f
 repeat' first
   | (with_reducible exact ih0 _ _ _ _ _)
   | (with_reducible exact ih1 _ _ _ _ _ _ _ _)
   | (with_reducible exact ih2 _ _ _ _ _)
   | (with_reducible exact slices_BinarySearch_string_string.mono _ _ _)
   | (with_reducible exact LeO.refl _)
   | (with_reducible exact LeO.none _)
   | (with_reducible refine LeO.ite ?_ ?_)
   | (with_reducible refine LeO.bind ?_ (fun _ => ?_))
   | exact ih0 _ _ _ _ _
   | exact ih1 _ _ _ _ _ _ _ _
   | exact ih2 _ _ _ _ _
   | exact slices_BinarySearch_string_string.mono _ _ _
   | exact LeO.none _
   | refine LeO.ite ?_ ?_
   | refine LeO.bind ?_ (fun _ => ?_)
def impl_trieOf.T20 : Bool × List (List Nat × List Nat) := (true, [([], []), ([], []), ([1], [1]), ([2], [2]), ([0, 3], [0, 3]), ([4], [4]), ([5], [5]), ([], []), ([], []), ([], []), ([9], [9]), ([10], [10]), ([8, 11], [8, 11]), ([7, 12], [7, 12]), ([0, 1, 2, 3, 4, 5, 6], []), ([14, 6, 0, 1, 2, 3, 4, 5, 6], [6, 14]), ([0, 1, 2, 3, 4, 5, 6, 7, 8, 9, 10, 11, 12, 13, 14, 15], []), ([16, 13, 15, 0, 1, 2, 3, 4, 5, 6, 7, 8, 9, 10, 11, 12, 13, 14, 15], [13, 16])])
def impl_trieOf.B20 : List Nat := [0, 0, 2, 6, 15, 31, 63, 0, 0, 0, 512, 1536, 3840, 8064, 127, 16511, 65535, 131071]
theorem impl_trieOf.tab20 : rtab .any (opsOf Tryd.f55 20) = impl_trieOf.T20 := by kernel_rfl
theorem impl_trieOf.bits20 : waitsOk impl_trieOf.T20.2 impl_trieOf.B20 = true := by kernel_rfl
set_option maxHeartbeats 60000000 in
theorem impl_trieOf.calls (k : Nat) (A0 : Option Addr) (c0 : Nat) (l0 : List ByteArray) (r : List (S73)) (w : World) (hr0 : Kd.C Kd.string w A0 l0.length l0) (hc0 : l0.length ≤ c0) (h : impl_trieOf.f k l0 = some r) :
  Calls Tryd.prog 55 #[.slice A0 l0.length c0] w fun e w' => ∃ v0_ : Value, e = .returned (.agg #[v0_]) ∧ Kd.R k73 73 w' w.heap.size (fun _ => True) v0_ r ∧ Below w.heap.size w w' := by
 have hu44 := Tryd.underlying44
 have hu73 := Tryd.underlying73
 have HR0 := aM_ hr0
 have HC0 := aM_ hc0
 clear hr0 hc0
 have HB := aM_ (Below.refl w.heap.size w)
 have H : (impl_trieOf.l0 k l0 (([(⟨#[]⟩ : ByteArray)] : List ByteArray)) l0 (l0.length : Int) 0) = some r := h
 clear h
 obtain ⟨y319, hy319⟩ : ∃ y_ : List ByteArray, y_ = (([(⟨#[]⟩ : ByteArray)] : List ByteArray)) := ⟨_, rfl⟩
 replace H : (impl_trieOf.l0 k l0 y319 l0 (l0.length : Int) 0) = some r := by first | (rw [hy319]; with_reducible exact H) | (have H2_ := (Option.bind_some _ _).symm.trans H; rw [hy319]; with_reducible exact H2_) | (have H2_ := (Option.bind_some _ _).symm.trans H; with_reducible exact H2_) | with_reducible exact H | (rw [hy319]; exact H) | exact H
 have Ny319 := aM_ hy319
 clear hy319
 have H' := aM_ H
 clear H
 go_enter Tryd.func55, Tryd.ntmps55
 go_wp2_with (first | ((with_reducible refine gate_dst (N := 2) rfl ?_); refine box_event ?hg (N := 2) ?hd (cs := #[.slice none 0 0]) (t := 44) ?hr ?_; (case hd => rfl); (case hg => rfl); (case hr => first | (go_simp; done) | (go_simp; rfl)); intro gb318 hg w2 hbox hb; have BK318 := aM_ (hbox); have GW318 := aM_ ((by rw [hg]; exact (below_size HB.out) : w.heap.size ≤ gb318)); have GE318 := GW318; replace HB := aM_ (below_step HB.out hb); clear hb hbox hg) | ((with_reducible refine gate_dst (N := 14) rfl ?_); refine Kd.R_lit Kd.string _ 9 ?hg (N := 14) ?hd (xs := ([(⟨#[]⟩ : ByteArray)] : List ByteArray)) (inner := [.string (⟨#[]⟩ : ByteArray)]) (ok := fun _ => True) (okp := fun _ => True) ?hr ?hp (fun _ hk => hk) trivial (Below.refl _ _) (Nat.le_refl _) (by simp) ?_; (case hd => rfl); (case hg => rfl); (case hr => first | (go_simp; done) | (go_simp; rfl)); (case hp => exact (Reps.one (show Kd.M Kd.string _ _ _ (⟨#[]⟩ : ByteArray) [.string (⟨#[]⟩ : ByteArray)] from rfl) (Reps.none _ _))); intro v320 w3 ho4 hb hg_ hnew_; clear hg_ hnew_; (first | rw [← Ny319.out] at ho4 | (simp only [Int.reduceToNat] at ho4; rw [← Ny319.out] at ho4)); have HO321 := aM_ (Kd.R_lower ho4 (below_size HB.out)); replace BK318 := aM_ (blk_below BK318.out hb); replace HB := aM_ (below_step HB.out hb); clear hb ho4))
 go_loopg [3, 17] k (fun kq v3 v17 w' => ∃ (x3_1 : List ByteArray) (x17_1 : Int), v17 = .int .i64 x17_1 ∧ Aside0 (impl_trieOf.l0 kq l0 x3_1 l0 (l0.length : Int) x17_1 = some r) ∧ Aside0 (kq ≤ k) ∧ Aside0 (Kd.R Kd.string 9 w' w.heap.size (fun _ => True) v3 x3_1) ∧ Aside0 (w'.heap[gb318]? = some (.cells #[(.slice none 0 0)] 44 (0, 0))) ∧ Aside0 (Below w.heap.size w w'))
 case atStart => exact ⟨(y319), (0), (by first | rfl | (simp; done) | (simp [*]; done)), H', ⟨Nat.le_refl _⟩, ⟨HO321.out⟩, ⟨BK318.out⟩, ⟨HB.out⟩⟩
 case round =>
  clear H'
  try clear p2
  obtain ⟨x3_1, x17_1, rfl, HA, HK1, HO_3, BK318, HB⟩ := hrel
  cases gk with
  | zero => exact absurd HA.out (by simp [impl_trieOf.l0])
  | succ k1 =>
   have H := HA.out
   clear HA
   simp only [impl_trieOf.l0] at H
   by_cases c5 : x17_1 < (l0.length : Int)
   ·
    rw [if_pos c5] at H
    have c5b0 := decide_eq_true c5
    clear c5
    by_cases c6 : 0 ≤ x17_1
    ·
     rw [if_pos c6] at H
     have c6b0 := decide_eq_true c6
     clear c6
     by_cases c7 : x17_1 < (l0.length : Int)
     ·
      rw [if_pos c7] at H
      have c7b0 := decide_eq_true c7
      clear c7
      have H' := aM_ H
      clear H
      have p322 : 0 ≤ (x17_1 : Int) := of_decide_eq_true (by first | (with_reducible assumption) | assumption)
      have q322 : x17_1 < (l0.length : Int) := of_decide_eq_true (by first | (with_reducible assumption) | assumption)
      obtain ⟨ad322, e322, hx322_0⟩ := Kd.at_string HR0.out x17_1 p322 q322
      cases e322
      replace hx322_0 := (HB.out.cell (World.block_lt_of_cell? w _ hx322_0)).trans hx322_0
      replace p322 := eq_true p322
      replace q322 := eq_true q322
      go_wp2
      go_loopg [3, 23] k1 (fun kq v3 v23 w' => ∃ (x3_2 : List ByteArray) (x23_2 : Int), v23 = .int .i64 x23_2 ∧ Aside0 (impl_trieOf.l1 kq l0 x3_2 (rdOf ByteArray.empty l0 x17_1) l0 (l0.length : Int) x17_1 ((rdOf ByteArray.empty l0 x17_1).size : Int) x23_2 = some r) ∧ Aside0 (kq ≤ k1) ∧ Aside0 (Kd.R Kd.string 9 w' w.heap.size (fun _ => True) v3 x3_2) ∧ Aside0 (w'.heap[gb318]? = some (.cells #[(.slice none 0 0)] 44 (0, 0))) ∧ Aside0 (Below w.heap.size w w'))
      case atStart => exact ⟨(x3_1), (0), (by first | rfl | (simp; done) | (simp [*]; done)), H', ⟨Nat.le_refl _⟩, ⟨HO_3.out⟩, ⟨BK318.out⟩, ⟨HB.out⟩⟩
      case round =>
       clear H'
       try clear p2
       try clear p3
       try clear q3
       try clear hx3
       try clear c5
       try clear c5b0
       try clear c6
       try clear c6b0
       try clear c7
       try clear c7b0
       try clear hx322_0
       try clear p2
       try clear p322
       try clear q322
       obtain ⟨x3_2, x23_2, rfl, HA, HK2, HO_3, BK318, HB⟩ := hrel
       cases gk with
       | zero => exact absurd HA.out (by simp [impl_trieOf.l1])
       | succ k2 =>
        have H := HA.out
        clear HA
        simp only [impl_trieOf.l1] at H
        by_cases c8 : x23_2 < ((rdOf ByteArray.empty l0 x17_1).size : Int)
        ·
         rw [if_pos c8] at H
         have c8b0 := decide_eq_true c8
         clear c8
         obtain ⟨ji9, hji9⟩ : ∃ j_ : Int, (wrap64 (x23_2 + 1)) = j_ := ⟨_, rfl⟩
         replace H : (if 0 ≤ (ji9) then (if (ji9) ≤ ((rdOf ByteArray.empty l0 x17_1).size : Int) then (if x3_2.length < 8796093022208 then (impl_trieOf.l1 k2 l0 (x3_2 ++ [(rdOf ByteArray.empty l0 x17_1).extract 0 ((ji9) : Int).toNat]) (rdOf ByteArray.empty l0 x17_1) l0 (l0.length : Int) x17_1 ((rdOf ByteArray.empty l0 x17_1).size : Int) ji9) else (none)) else (none)) else (none)) = some r := by first | (rw [hji9] at H; exact H) | (simp only [hji9] at H ⊢; exact H)
         have hji9w : (IntKind.i64.wrap (x23_2 + 1)) = ji9 := (i64_w _).trans hji9
         by_cases c10 : 0 ≤ (ji9)
         ·
          rw [if_pos c10] at H
          have c10b0 := eq_true c10
          have c10b1 := decide_eq_true c10
          clear c10
          by_cases c11 : (ji9) ≤ ((rdOf ByteArray.empty l0 x17_1).size : Int)
          ·
           rw [if_pos c11] at H
           have c11b0 := eq_true c11
           have c11b1 := decide_eq_true c11
           clear c11
           by_cases c12 : x3_2.length < 8796093022208
           ·
            rw [if_pos c12] at H
            have LMc12 := aM_ c12
            clear c12
            obtain ⟨y323, hy323⟩ : ∃ y_ : List ByteArray, y_ = (x3_2 ++ [(rdOf ByteArray.empty l0 x17_1).extract 0 ((ji9) : Int).toNat]) := ⟨_, rfl⟩
            replace H : (impl_trieOf.l1 k2 l0 y323 (rdOf ByteArray.empty l0 x17_1) l0 (l0.length : Int) x17_1 ((rdOf ByteArray.empty l0 x17_1).size : Int) ji9) = some r := by first | (rw [hy323]; with_reducible exact H) | (have H2_ := (Option.bind_some _ _).symm.trans H; rw [hy323]; with_reducible exact H2_) | (have H2_ := (Option.bind_some _ _).symm.trans H; with_reducible exact H2_) | with_reducible exact H | (rw [hy323]; exact H) | exact H
            have Ny323 := aM_ hy323
            clear hy323
            have H' := aM_ H
            clear H
            go_wp2_with (first | ((with_reducible refine gate_builtin (b := .append) (xs := #[.tmp 26, .tmp 31]) rfl ?_); at_builtin; refine Kd.R_append Kd.string (w0 := w) w.heap.size rfl (.tmp 26) (.tmp 31) 52 9 (.string ⟨#[]⟩) 16 rfl Tryd.underlying52 info9 rfl (by decide) (by omega) u3 x3_2 ((rdOf ByteArray.empty l0 x17_1).extract 0 ((ji9) : Int).toNat) [.string ((rdOf ByteArray.empty l0 x17_1).extract 0 ((ji9) : Int).toNat)] (fun _ => True) (fun _ => False) rfl rfl ?aP (fun _ hk => hk.elim) ?aF ?aO ?aB ?aS ?aL ?_; (case aP => exact rfl); (case aB => exact HB.out); (case aF => exact (fun _ _ => trivial)); (case aO => exact HO_3.out); (case aS => exact (below_size HB.out)); (case aL => have := LMc12.out; omega); intro v324 w13 ho hb hg hat; rw [← Ny323.out] at ho; have n0_ := aM_ (blk_grown (g := gb318) (o := .cells #[.slice none 0 0] 44 (0, 0)) BK318.out hg (Kd.R_ne HO_3.out BK318.out (by decide))); have n1_ := aM_ (hb); have n2_ := aM_ (ho); clear BK318; clear HB; clear HO_3; have BK318 := n0_; have HB := n1_; have HO325 := n2_; clear n0_ n1_ n2_; clear ho hb hg hat))
            go_roundg k2
            case measure => have := HK1.out; have := HK2.out; omega
            case rel => exact ⟨(y323), (ji9), (by first | rfl | (simp; done) | (simp only [← hji9] <;> (first | rfl | simp)) | (simp [*]; done)), H', ⟨by have := HK1.out; have := HK2.out; omega⟩, ⟨HO325.out⟩, ⟨BK318.out⟩, ⟨HB.out⟩⟩
           ·
            rw [if_neg c12] at H
            exact absurd H (by simp)
          ·
           rw [if_neg c11] at H
           exact absurd H (by simp)
         ·
          rw [if_neg c10] at H
          exact absurd H (by simp)
        ·
         rw [if_neg c8] at H
         have c8b0 := decide_eq_false c8
         clear c8
         have H' := aM_ H
         clear H
         go_wp2
         go_roundg k2
         case measure => have := HK1.out; have := HK2.out; omega
         case rel => exact ⟨(x3_2), (wrap64 (x17_1 + 1)), (by first | rfl | (simp; done) | (simp [*]; done)), H', ⟨by have := HK1.out; have := HK2.out; omega⟩, ⟨HO_3.out⟩, ⟨BK318.out⟩, ⟨HB.out⟩⟩
     ·
      rw [if_neg c7] at H
      exact absurd H (by simp)
    ·
     rw [if_neg c6] at H
     exact absurd H (by simp)
   ·
    rw [if_neg c5] at H
    have c5b0 := decide_eq_false c5
    clear c5
    replace H := Option.bind_eq_some_iff.mp H
    obtain ⟨t326, A140, H⟩ := H
    try dsimp only at H
    have hsz_ : SM.okL t326 = true := by
     by_cases h_ : SM.okL t326 = true
     ·
      exact h_
     ·
      rw [if_neg h_] at H; cases H
    rw [if_pos hsz_] at H
    have HSZ := aM_ hsz_
    clear hsz_
    have A14 := aM_ A140
    clear A140
    have H' := aM_ H
    clear H
    obtain ⟨Ao15, co15, eo15⟩ := Kd.R_slice HO_3.out
    subst eo15
    go_wp2_with (first | ((with_reducible refine gate_callee (f := 54) rfl ?_); refine goesL_ (some 36) rfl rfl Tryd.func54 (by kernel_rfl) rfl #[.slice Ao15 x3_1.length co15] rfl (by (try simp only [sD_, sE_, sF_]); first | done | rfl | (simp only [sG_, sH_]; rfl)) ?_; (with_reducible refine (impl_set.calls _ _ x3_1 t326 _ ?side1 ?side2 A14.out).mono ?_); (case side1 => repeat (first | exact (Kd.R_reads' HO_3.out).2.2 | (with_reducible refine Kd.C_alloc ?_ _) | (with_reducible refine Kd.C_drewN ?_ _) | (with_reducible refine Kd.C_drew ?_))); (case side2 => exact (Kd.R_reads' HO_3.out).2.1); rintro e w16 ⟨v327, rfl, ho0, hb⟩; refine ⟨_, rfl, ?_⟩; have HO328 := aM_ (Kd.R_lower (Kd.R_new' ho0 (Kd.R_lt HO_3.out)) (below_size HB.out)); replace HO_3 := aM_ (Kd.R_elder' HO_3.out (Kd.R_base ho0) hb); replace BK318 := aM_ (blk_below BK318.out hb); replace HB := aM_ (below_step HB.out hb); (try clear hb); (try clear hb2); (try clear hk); (try clear hi); (try clear ho0)) | ((with_reducible refine gate_dst (N := 38) rfl ?_); refine SM.made ?hg (N := 38) ?hd ?hr ?_; (case hd => rfl); (case hg => rfl); (case hr => first | (go_simp; done) | (go_simp; rfl)); intro gbM hg wMade hbox hb; replace HO_3 := aM_ (Kd.R_below HO_3.out hb); replace HO328 := aM_ (Kd.R_below HO328.out hb); have BKM := aM_ (hbox); have GWM := aM_ ((by rw [hg]; exact (below_size HB.out) : w.heap.size ≤ gbM)); have GEM := aM_ ((by rw [hg]; exact (below_size HB.out) : w.heap.size ≤ gbM)); replace HB := aM_ (below_step HB.out hb); have NB318_M := aM_ ((by rw [hg]; exact Nat.ne_of_lt (blk_lt BK318.out) : gb318 ≠ gbM)); have NBM_318 := aM_ NB318_M.out.symm; replace BK318 := aM_ (blk_below BK318.out hb); clear hb hbox hg) | ((with_reducible refine gate_dst (N := 7) rfl ?_); refine box_event ?hg (N := 7) ?hd (cs := #[.slice none 0 0]) (t := 44) ?hr ?_; (case hd => rfl); (case hg => rfl); (case hr => first | (go_simp; done) | (go_simp; rfl)); intro gb329 hg w17 hbox hb; have n0_ := aM_ (Kd.R_below HO_3.out hb); have n1_ := aM_ (Kd.R_below HO328.out hb); have n2_ := aM_ (blk_below BK318.out hb); have n29_ := aM_ (SM.Is.below (l := []) (by (with_reducible repeat (first | refine SM.Is.drewN ?_ _ | refine SM.Is.drew ?_ | refine SM.Is.alloc ?_ _)); exact BKM.out) hb); have n3_ := aM_ (below_step HB.out hb); have n4_ := aM_ (hbox); have n5_ := aM_ ((by rw [hg]; exact (below_size HB.out) : w.heap.size ≤ gb329)); have n6_ := aM_ ((by rw [hg]; exact (below_size HB.out) : w.heap.size ≤ gb329)); have n7_ := aM_ ((by rw [hg]; exact Nat.ne_of_lt (blk_lt BK318.out) : gb318 ≠ gb329)); have n79_ := aM_ ((by rw [hg]; exact Nat.ne_of_lt (SM.Is.lt (l := []) (by (with_reducible repeat (first | refine SM.Is.drewN ?_ _ | refine SM.Is.drew ?_ | refine SM.Is.alloc ?_ _)); exact BKM.out)) : gbM ≠ gb329)); have n8_ := aM_ ((by rw [hg]; exact Nat.ne_of_gt (blk_lt BK318.out) : gb329 ≠ gb318)); have n89_ := aM_ ((by rw [hg]; exact Nat.ne_of_gt (SM.Is.lt (l := []) (by (with_reducible repeat (first | refine SM.Is.drewN ?_ _ | refine SM.Is.drew ?_ | refine SM.Is.alloc ?_ _)); exact BKM.out)) : gb329 ≠ gbM)); clear HO_3; clear HO328; clear BKM; clear BK318; clear HB; have HO_3 := n0_; have HO328 := n1_; have BK318 := n2_; have BKM := n29_; have HB := n3_; have BK329 := n4_; have GW329 := n5_; have GE329 := n6_; have NB318_329 := n7_; have NBM_329 := n79_; have NB329_318 := n8_; have NB329_M := n89_; clear n0_ n1_ n2_ n3_ n4_ n5_ n6_ n7_ n8_ n29_ n79_ n89_; clear hb hbox hg; have hnb18 := NB329_318.out; have hnc18 := NB318_329.out; have hcz19_0 : w17.cell? ⟨gb329, 0, none⟩ = some (.slice none 0 0) := (blk_cell BK329.out 0).trans rfl; have hfz19_0 := blk_frozen BK329.out 0; obtain ⟨Ao20, co20, eo20⟩ := Kd.R_slice HO328.out; subst eo20))
    go_loopg [41] k1 (fun kq v41 w' => ∃ (x41_2 : Int) (x330000_2 : List (S73)) (u330000 : Value), v41 = .int .i64 x41_2 ∧ Aside0 (impl_trieOf.l2 kq l0 t326 (t326.length : Int) x41_2 x330000_2 = some r) ∧ Aside0 (kq ≤ k1) ∧ Aside0 (Kd.R Kd.string 9 w' w.heap.size (fun _ => True) (.slice Ao20 t326.length co20) t326) ∧ Aside0 (Kd.R k73 73 w' w.heap.size (fun _ => True) u330000 x330000_2) ∧ Aside0 (w'.heap[gb318]? = some (.cells #[(.slice none 0 0)] 44 (0, 0))) ∧ Aside0 (w'.heap[gb329]? = some (.cells #[u330000] 44 (0, 0))) ∧ Aside0 (Below w.heap.size w w') ∧ Aside0 (SM.Is w' gbM (List.take ((x41_2 : Int).toNat) t326)))
    case atStart => exact ⟨(0), (([] : List (S73))), (.slice none 0 0), (by first | rfl | (simp; done) | (simp [*]; done)), H', ⟨Nat.le_refl _⟩, ⟨by exact Kd.R_mono (Kd.R_far (p := ⟨gb329, 0, none⟩) (Kd.R_types HO328.out BK329.out (by decide)) (fun _ hk => hk.2) (.slice none 0 0)) (fun _ hk => trivial)⟩, ⟨by first | exact Kd.R_nil _ _ _ _ _ | exact Kd.N_nil _ _ _ _ _ | exact Kd.V_nil _ _ _ _ _ | exact Kd.Q_nil _ _ _ _ _ | exact Kd.S_nil _ _ _ _ _⟩, ⟨by refine blk_far ?_ NB318_329.out _; exact BK318.out⟩, ⟨by refine blk_put (cs := #[.slice none 0 0]) ?_ 0 _ rfl; exact BK329.out⟩, ⟨by repeat (first | (with_reducible first | exact HB.out | apply below_alloc | apply pw_below_drewN | apply below_drew1 | refine below_set ?_ GE318.out | refine below_set ?_ GE329.out) | exact HB.out)⟩, ⟨(by (with_reducible repeat (first | refine SM.Is.drewN ?_ _ | refine SM.Is.drew ?_ | refine SM.Is.alloc ?_ _)); refine SM.Is.far ?_ NBM_329.out _; (with_reducible repeat (first | refine SM.Is.drewN ?_ _ | refine SM.Is.drew ?_ | refine SM.Is.alloc ?_ _)); exact BKM.out : SM.Is _ gbM [])⟩⟩
    case round =>
     clear H'
     try clear c1
     try clear p2
     try clear p3
     try clear q3
     try clear hx3
     try clear c5
     try clear c5b0
     try clear c6
     try clear c6b0
     try clear p6
     try clear c7
     try clear c7b0
     try clear c8
     try clear c8b0
     try clear c10
     try clear c10b0
     try clear c10b1
     try clear c11
     try clear c11b0
     try clear c11b1
     try clear c12
     try clear c18
     try clear hcz19_0
     try clear hfz19_0
     try clear hx322_0
     try clear p2
     try clear p3
     try clear p322
     try clear q3
     try clear q322
     obtain ⟨x41_2, x330000_2, u330000, rfl, HA, HK2, HO_39, HO_330000, BK318, BK329, HB, BKM0⟩ := hrel
     obtain ⟨lm, hlm⟩ : ∃ l_ : List ByteArray, l_ = List.take ((x41_2 : Int).toNat) t326 := ⟨_, rfl⟩
     have BKM : Aside0 (SM.Is wr gbM lm) := ⟨by rw [hlm]; exact BKM0.out⟩
     clear BKM0
     have HLM := aM_ hlm
     clear hlm
     cases gk with
     | zero => exact absurd HA.out (by simp [impl_trieOf.l2])
     | succ k2 =>
      have H := HA.out
      clear HA
      simp only [impl_trieOf.l2] at H
      by_cases c21 : x41_2 < (t326.length : Int)
      ·
       rw [if_pos c21] at H
       have c21b0 := decide_eq_true c21
       clear c21
       by_cases c22 : 0 ≤ x41_2
       ·
        rw [if_pos c22] at H
        have c22b0 := decide_eq_true c22
        clear c22
        by_cases c23 : x41_2 < (t326.length : Int)
        ·
         rw [if_pos c23] at H
         have c23b0 := decide_eq_true c23
         clear c23
         replace H := Option.bind_eq_some_iff.mp H
         obtain ⟨⟨t331, t332⟩, A240, H⟩ := H
         try dsimp only at H
         have A24 := aM_ A240
         clear A240
         by_cases c25 : (rdOf ByteArray.empty t326 x41_2).toList = ([] : List UInt8)
         ·
          rw [if_pos c25] at H
          have c25b0 : ((rdOf ByteArray.empty t326 x41_2).toList == ([] : List UInt8)) = true := beq_iff_eq.mpr c25
          have c25b1 : ((rdOf ByteArray.empty t326 x41_2).toList != ([] : List UInt8)) = false := bne_eq_false_iff_eq.mpr c25
          clear c25
          by_cases c26 : x330000_2.length < 5864062014805
          ·
           rw [if_pos c26] at H
           have LMc26 := aM_ c26
           clear c26
           obtain ⟨y334, hy334⟩ : ∃ y_ : List (S73), y_ = (x330000_2 ++ [(⟨(-1), (-1), t332⟩ : S73)]) := ⟨_, rfl⟩
           replace H : (impl_trieOf.l2 k2 l0 t326 (t326.length : Int) (wrap64 (x41_2 + 1)) y334) = some r := by first | (rw [hy334]; with_reducible exact H) | (have H2_ := (Option.bind_some _ _).symm.trans H; rw [hy334]; with_reducible exact H2_) | (have H2_ := (Option.bind_some _ _).symm.trans H; with_reducible exact H2_) | with_reducible exact H | (rw [hy334]; exact H) | exact H
           have Ny334 := aM_ hy334
           clear hy334
           have H' := aM_ H
           clear H
           have p330 : 0 ≤ (x41_2 : Int) := of_decide_eq_true (by first | (with_reducible assumption) | assumption)
           have q330 : x41_2 < (t326.length : Int) := of_decide_eq_true (by first | (with_reducible assumption) | assumption)
           have HLL := aM_ (show (lm.length : Int) = x41_2 from by rw [HLM.out, List.length_take]; omega)
           have HLL2 := aM_ (show lm.length < t326.length from by rw [HLM.out, List.length_take]; omega)
           have HLP := aM_ (SM.okL.size HSZ.out x41_2 p330 q330)
           have HLN := aM_ (show lm ++ [rdOf ByteArray.empty t326 x41_2] = List.take ((x41_2 : Int).toNat + 1) t326 from by rw [HLM.out]; exact SM.take_rd t326 x41_2 p330 q330)
           obtain ⟨ad330, e330, hx330_0⟩ := Kd.at_string (Kd.R_reads' HO_39.out).2.2 x41_2 p330 q330
           cases e330
           replace p330 := eq_true p330
           replace q330 := eq_true q330
           go_wp2_with (first | (at_mapUpdate; refine SM.put rfl (.tmp 46) (.tmp 47) (.tmp 48) 88 Tryd.underlying88 rfl gbM lm rfl (by (with_reducible repeat (first | refine SM.Is.drewN ?_ _ | refine SM.Is.drew ?_ | refine SM.Is.alloc ?_ _)); exact BKM.out) ?hn (rdOf ByteArray.empty t326 x41_2) ?hp rfl ?hv ?_; (case hn => have h1_ := SM.okL.len HSZ.out; have h2_ := HLL2.out; omega); (case hp => have h1_ := HLP.out; unfold maxLen; omega); (case hv => exact (congrArg (Value.int IntKind.i64) HLL.out).symm); intro w9m h1m hgm; obtain ⟨lm2, hlm2⟩ : ∃ l_ : List ByteArray, l_ = lm ++ [rdOf ByteArray.empty t326 x41_2] := ⟨_, rfl⟩; rw [← hlm2] at h1m; have HLM2 := aM_ hlm2; clear hlm2; have nr0_ := aM_ (SM.R_over HO_39.out (by (with_reducible repeat (first | refine SM.Is.drewN ?_ _ | refine SM.Is.drew ?_ | refine SM.Is.alloc ?_ _)); exact BKM.out) hgm); have nr1_ := aM_ (SM.R_over HO_330000.out (by (with_reducible repeat (first | refine SM.Is.drewN ?_ _ | refine SM.Is.drew ?_ | refine SM.Is.alloc ?_ _)); exact BKM.out) hgm); have nb_ := aM_ (blk_grown (g := gb318) (o := .cells #[.slice none 0 0] 44 (0, 0)) BK318.out hgm (fun e_ => NBM_318.out (Option.some.inj e_).symm)); have nt_ := aM_ (blk_grown (g := gb329) BK329.out hgm (fun e_ => NBM_329.out (Option.some.inj e_).symm)); have nh_ := aM_ (RowKit.Below.grown HB.out hgm (below_size HB.out) (fun j hj => by cases hj; exact GEM.out)); clear HO_39 HO_330000 BK318 BK329 HB BKM; have HO_39 := nr0_; clear nr0_; have HO_330000 := nr1_; clear nr1_; have BK318 := nb_; have BK329 := nt_; have HB := nh_; have BKM := aM_ h1m; clear nb_ nt_ nh_ h1m hgm) | ((with_reducible refine gate_callee (f := 65) rfl ?_); refine goesL_ (some 52) rfl rfl Tryd.func65 (by kernel_rfl) rfl #[.slice A0 l0.length c0, .string (rdOf ByteArray.empty t326 x41_2)] rfl (by (try simp only [sD_, sE_, sF_]); first | done | rfl | (simp only [sG_, sH_]; rfl)) ?_; (with_reducible refine (slices_BinarySearch_string_string.calls k2 _ _ l0 (rdOf ByteArray.empty t326 x41_2) t331 t332 _ ?side1 ?side2 A24.out).mono ?_); (case side1 => repeat (first | exact (Kd.C_below HR0.out HB.out) | (with_reducible refine Kd.C_alloc ?_ _) | (with_reducible refine Kd.C_drewN ?_ _) | (with_reducible refine Kd.C_drew ?_))); (case side2 => exact HC0.out); rintro e w' ⟨rfl, ⟨nd, rfl⟩⟩; refine ⟨_, rfl, ?_⟩; (try (rw [drewN_self wr]; generalize hq_ : World.drewN wr _ = wr; have n0_ : Aside0 (Kd.R k73 73 wr w.heap.size (fun _ => True) u330000 x330000_2) := ⟨by rw [← hq_]; exact (by (with_reducible repeat (first | apply Kd.R_alloc | apply Kd.R_drewN | apply Kd.R_drew)); exact HO_330000.out)⟩; have n1_ : Aside0 (Kd.R Kd.string 9 wr w.heap.size (fun _ => True) (.slice (some ad330) t326.length co20) t326) := ⟨by rw [← hq_]; exact (by (with_reducible repeat (first | apply Kd.R_alloc | apply Kd.R_drewN | apply Kd.R_drew)); exact HO_39.out)⟩; have n2_ : Aside0 (wr.heap[gb318]? = some (.cells #[.slice none 0 0] 44 (0, 0))) := ⟨by rw [← hq_]; exact (by (with_reducible repeat (first | refine blk_drewN ?_ _ | refine blk_drew ?_ | refine blk_alloc ?_ _)); exact BK318.out)⟩; have n29_ : Aside0 (SM.Is wr gbM lm2) := ⟨by rw [← hq_]; exact (by (with_reducible repeat (first | refine SM.Is.drewN ?_ _ | refine SM.Is.drew ?_ | refine SM.Is.alloc ?_ _)); exact BKM.out)⟩; have n3_ : Aside0 (wr.heap[gb329]? = some (.cells #[u330000] 44 (0, 0))) := ⟨by rw [← hq_]; exact (by (with_reducible repeat (first | refine blk_drewN ?_ _ | refine blk_drew ?_ | refine blk_alloc ?_ _)); exact BK329.out)⟩; have n4_ : Aside0 (Below w.heap.size w wr) := ⟨by rw [← hq_]; exact (by repeat (first | (with_reducible first | exact HB.out | apply below_alloc | apply pw_below_drewN | apply below_drew1 | refine below_set ?_ GE318.out | refine below_set ?_ GE329.out) | exact HB.out))⟩; clear HO_330000 HO_39 BKM BK318 BK329 HB hq_; have HO_330000 := n0_; have HO_39 := n1_; have BK318 := n2_; have BKM := n29_; have BK329 := n3_; have HB := n4_; clear n0_ n1_ n2_ n3_ n4_ n29_))) | ((with_reducible refine gate_dst (N := 13) rfl ?_); refine box_event ?hg (N := 13) ?hd (cs := #[.int .i64 0, .int .i64 0, .bool false]) (t := 73) ?hr ?_; (case hd => rfl); (case hg => rfl); (case hr => first | (go_simp; done) | (go_simp; rfl)); intro gb333 hg w27 hbox hb; have n0_ := aM_ (Kd.R_below (by (with_reducible repeat (first | apply Kd.R_alloc | apply Kd.R_drewN | apply Kd.R_drew)); exact HO_39.out) hb); have n1_ := aM_ (Kd.R_below (Kd.R_elderB (by (with_reducible repeat (first | apply Kd.R_alloc | apply Kd.R_drewN | apply Kd.R_drew)); exact HO_330000.out) gb333 (Nat.le_of_eq hg.symm)) hb); have n2_ := aM_ (blk_below (g := gb318) (o := .cells #[.slice none 0 0] 44 (0, 0)) (by (with_reducible repeat (first | refine blk_drewN ?_ _ | refine blk_drew ?_ | refine blk_alloc ?_ _)); exact BK318.out) hb); have n29_ := aM_ (SM.Is.below (l := lm2) (by (with_reducible repeat (first | refine SM.Is.drewN ?_ _ | refine SM.Is.drew ?_ | refine SM.Is.alloc ?_ _)); exact BKM.out) hb); have n3_ := aM_ (blk_below (g := gb329) (o := .cells #[u330000] 44 (0, 0)) (by (with_reducible repeat (first | refine blk_drewN ?_ _ | refine blk_drew ?_ | refine blk_alloc ?_ _)); exact BK329.out) hb); have n4_ := aM_ (below_step (by repeat (first | (with_reducible first | exact HB.out | apply below_alloc | apply pw_below_drewN | apply below_drew1 | refine below_set ?_ GE318.out | refine below_set ?_ GE329.out) | exact HB.out)) hb); have n5_ := aM_ (hbox); have n6_ := aM_ ((by rw [hg]; exact (below_size (by repeat (first | (with_reducible first | exact HB.out | apply below_alloc | apply pw_below_drewN | apply below_drew1 | refine below_set ?_ GE318.out | refine below_set ?_ GE329.out) | exact HB.out))) : w.heap.size ≤ gb333)); have n7_ := aM_ ((by rw [hg]; exact (below_size (by repeat (first | (with_reducible first | exact HB.out | apply below_alloc | apply pw_below_drewN | apply below_drew1 | refine below_set ?_ GE318.out | refine below_set ?_ GE329.out) | exact HB.out))) : w.heap.size ≤ gb333)); have n8_ := aM_ ((by rw [hg]; exact Nat.ne_of_lt (blk_lt (g := gb318) (o := .cells #[.slice none 0 0] 44 (0, 0)) (by (with_reducible repeat (first | refine blk_drewN ?_ _ | refine blk_drew ?_ | refine blk_alloc ?_ _)); exact BK318.out)) : gb318 ≠ gb333)); have n89_ := aM_ ((by rw [hg]; exact Nat.ne_of_lt (SM.Is.lt (l := lm2) (by (with_reducible repeat (first | refine SM.Is.drewN ?_ _ | refine SM.Is.drew ?_ | refine SM.Is.alloc ?_ _)); exact BKM.out)) : gbM ≠ gb333)); have n9_ := aM_ ((by rw [hg]; exact Nat.ne_of_gt (blk_lt (g := gb318) (o := .cells #[.slice none 0 0] 44 (0, 0)) (by (with_reducible repeat (first | refine blk_drewN ?_ _ | refine blk_drew ?_ | refine blk_alloc ?_ _)); exact BK318.out)) : gb333 ≠ gb318)); have n99_ := aM_ ((by rw [hg]; exact Nat.ne_of_gt (SM.Is.lt (l := lm2) (by (with_reducible repeat (first | refine SM.Is.drewN ?_ _ | refine SM.Is.drew ?_ | refine SM.Is.alloc ?_ _)); exact BKM.out)) : gb333 ≠ gbM)); have n10_ := aM_ ((by rw [hg]; exact Nat.ne_of_lt (blk_lt (g := gb329) (o := .cells #[u330000] 44 (0, 0)) (by (with_reducible repeat (first | refine blk_drewN ?_ _ | refine blk_drew ?_ | refine blk_alloc ?_ _)); exact BK329.out)) : gb329 ≠ gb333)); have n11_ := aM_ ((by rw [hg]; exact Nat.ne_of_gt (blk_lt (g := gb329) (o := .cells #[u330000] 44 (0, 0)) (by (with_reducible repeat (first | refine blk_drewN ?_ _ | refine blk_drew ?_ | refine blk_alloc ?_ _)); exact BK329.out)) : gb333 ≠ gb329)); clear HO_39; clear HO_330000; clear BKM; clear BK318; clear BK329; clear HB; have HO_39 := n0_; have HO_330000 := n1_; have BK318 := n2_; have BKM := n29_; have BK329 := n3_; have HB := n4_; have BK333 := n5_; have GW333 := n6_; have GE333 := n7_; have NB318_333 := n8_; have NBM_333 := n89_; have NB333_318 := n9_; have NB333_M := n99_; have NB329_333 := n10_; have NB333_329 := n11_; clear n0_ n1_ n2_ n3_ n4_ n5_ n6_ n7_ n8_ n9_ n10_ n11_ n29_ n89_ n99_; clear hb hbox hg; have hnb28 := NB333_318.out; have hnc28 := NB318_333.out; have hnb29 := NB333_329.out; have hnc29 := NB329_333.out; have hcz30_0 : w27.cell? ⟨gb333, 0, none⟩ = some (.int .i64 0) := (blk_cell BK333.out 0).trans rfl; have hcz30_1 : w27.cell? ⟨gb333, 1, none⟩ = some (.int .i64 0) := (blk_cell BK333.out 1).trans rfl; have hcz30_2 : w27.cell? ⟨gb333, 2, none⟩ = some (.bool false) := (blk_cell BK333.out 2).trans rfl; have hfz30_0 := blk_frozen BK333.out 0; have hfz30_1 := blk_frozen BK333.out 1; have hfz30_2 := blk_frozen BK333.out 2; have hnb31 := NB329_318.out; have hnc31 := NB318_329.out; have hcz32_0 : w27.cell? ⟨gb329, 0, none⟩ = some (u330000) := (blk_cell BK329.out 0).trans rfl; have hfz32_0 := blk_frozen BK329.out 0) | ((with_reducible refine gate_builtin (b := .append) (xs := #[.tmp 76, .tmp 78]) rfl ?_); at_builtin; refine Kd.R_append k73 (w0 := w) w.heap.size rfl (.tmp 76) (.tmp 78) 42 73 (.agg #[(.int .i64 0), (.int .i64 0), (.bool false)]) 24 rfl Tryd.underlying42 info73 rfl (by decide) (by omega) u330000 x330000_2 (⟨(-1), (-1), t332⟩ : S73) [.int .i64 (-1), .int .i64 (-1), .bool t332] (fun k_ => k_ ≠ gb333) (fun _ => False) rfl (by first | (go_simp; done) | (go_simp; rfl)) ?aP (fun _ hk => hk.elim) ?aF ?aO ?aB ?aS ?aL ?_; (case aP => exact k73_mkM _ _ _ (⟨(-1), (-1), t332⟩ : S73)); (case aB => exact (by repeat (first | (with_reducible first | exact HB.out | apply below_alloc | apply pw_below_drewN | apply below_drew1 | refine below_set ?_ GE318.out | refine below_set ?_ GE329.out | refine below_set ?_ GE333.out) | exact HB.out))); (case aF => exact (fun k_ hk => Kd.freshB (g := gb333) (o := .cells #[.int .i64 (-1), .int .i64 (-1), .bool t332] 73 (0, 0)) (by refine blk_put (cs := #[.int .i64 (-1), .int .i64 (-1), .bool false]) ?_ 2 _ rfl; refine blk_put (cs := #[.int .i64 (-1), .int .i64 0, .bool false]) ?_ 1 _ rfl; refine blk_put (cs := #[.int .i64 0, .int .i64 0, .bool false]) ?_ 0 _ rfl; exact BK333.out) k_ hk)); (case aO => exact (by exact Kd.R_mono (Kd.R_far (p := ⟨gb333, 2, none⟩) (Kd.R_far (p := ⟨gb333, 1, none⟩) (Kd.R_far (p := ⟨gb333, 0, none⟩) (Kd.R_mono HO_330000.out (fun k_ hk => (⟨hk, hk.2⟩ : _ ∧ k_ ≠ gb333))) (fun _ hk => hk.2) (.int .i64 (-1))) (fun _ hk => hk.2) (.int .i64 (-1))) (fun _ hk => hk.2) (.bool t332)) (fun _ hk => hk.1.2))); (case aS => exact (below_size (by repeat (first | (with_reducible first | exact HB.out | apply below_alloc | apply pw_below_drewN | apply below_drew1 | refine below_set ?_ GE318.out | refine below_set ?_ GE329.out | refine below_set ?_ GE333.out) | exact HB.out)))); (case aL => have := LMc26.out; omega); intro v335 w33 ho hb hg hat; rw [← Ny334.out] at ho; have n0_ := aM_ (Kd.R_over' (by exact (Kd.R_mono (Kd.R_far (p := ⟨gb333, 2, none⟩) (Kd.R_far (p := ⟨gb333, 1, none⟩) (Kd.R_far (p := ⟨gb333, 0, none⟩) (Kd.R_types HO_39.out BK333.out (by decide)) (fun _ hk => hk.2) (.int .i64 (-1))) (fun _ hk => hk.2) (.int .i64 (-1))) (fun _ hk => hk.2) (.bool t332)) (fun _ h_ => h_.1))) (Kd.R_typed (by exact (Kd.R_mono (Kd.R_far (p := ⟨gb333, 2, none⟩) (Kd.R_far (p := ⟨gb333, 1, none⟩) (Kd.R_far (p := ⟨gb333, 0, none⟩) (Kd.R_mono HO_330000.out (fun k_ hk => (⟨hk, hk.2⟩ : _ ∧ k_ ≠ gb333))) (fun _ hk => hk.2) (.int .i64 (-1))) (fun _ hk => hk.2) (.int .i64 (-1))) (fun _ hk => hk.2) (.bool t332)) (fun _ h_ => h_.1)))) (by decide) hg); have n1_ := aM_ (blk_grown (g := gb318) (o := .cells #[.slice none 0 0] 44 (0, 0)) (by refine blk_far ?_ NB318_333.out _; refine blk_far ?_ NB318_333.out _; refine blk_far ?_ NB318_333.out _; exact BK318.out) hg (Kd.R_ne HO_330000.out BK318.out (by decide))); have n19_ := aM_ (SM.Is.grown (l := lm2) (by (with_reducible repeat (first | refine SM.Is.drewN ?_ _ | refine SM.Is.drew ?_ | refine SM.Is.alloc ?_ _)); refine SM.Is.far ?_ NBM_333.out _; (with_reducible repeat (first | refine SM.Is.drewN ?_ _ | refine SM.Is.drew ?_ | refine SM.Is.alloc ?_ _)); refine SM.Is.far ?_ NBM_333.out _; (with_reducible repeat (first | refine SM.Is.drewN ?_ _ | refine SM.Is.drew ?_ | refine SM.Is.alloc ?_ _)); refine SM.Is.far ?_ NBM_333.out _; (with_reducible repeat (first | refine SM.Is.drewN ?_ _ | refine SM.Is.drew ?_ | refine SM.Is.alloc ?_ _)); exact BKM.out) hg (SM.Is.ne BKM.out HO_330000.out)); have n2_ := aM_ (blk_grown (g := gb329) (o := .cells #[u330000] 44 (0, 0)) (by refine blk_far ?_ NB329_333.out _; refine blk_far ?_ NB329_333.out _; refine blk_far ?_ NB329_333.out _; exact BK329.out) hg (Kd.R_ne HO_330000.out BK329.out (by decide))); have n3_ := aM_ (blk_grown (g := gb333) (o := .cells #[.int .i64 (-1), .int .i64 (-1), .bool t332] 73 (0, 0)) (by refine blk_put (cs := #[.int .i64 (-1), .int .i64 (-1), .bool false]) ?_ 2 _ rfl; refine blk_put (cs := #[.int .i64 (-1), .int .i64 0, .bool false]) ?_ 1 _ rfl; refine blk_put (cs := #[.int .i64 0, .int .i64 0, .bool false]) ?_ 0 _ rfl; exact BK333.out) hg (Kd.R_away HO_330000.out (fun _ hk => hk.2))); have n4_ := aM_ (hb); have n5_ := aM_ (ho); clear HO_39; clear BKM; clear BK318; clear BK329; clear BK333; clear HB; clear HO_330000; have HO_39 := n0_; have BK318 := n1_; have BKM := n19_; have BK329 := n2_; have BK333 := n3_; have HB := n4_; have HO336 := n5_; clear n0_ n1_ n2_ n3_ n4_ n5_ n19_; clear ho hb hg hat; obtain ⟨Ao34, co34, eo34⟩ := Kd.R_slice HO336.out; subst eo34; have hcz35_0 : w33.cell? ⟨gb329, 0, none⟩ = some (u330000) := (blk_cell BK329.out 0).trans rfl; have hfz35_0 := blk_frozen BK329.out 0))
           go_roundg k2
           case measure => have := HK1.out; have := HK2.out; omega
           case rel => exact ⟨(wrap64 (x41_2 + 1)), (y334), (.slice Ao34 y334.length co34), (by first | rfl | (simp; done) | (simp [*]; done)), H', ⟨by have := HK1.out; have := HK2.out; omega⟩, ⟨by exact Kd.R_mono (Kd.R_far (p := ⟨gb329, 0, none⟩) (Kd.R_types HO_39.out BK329.out (by decide)) (fun _ hk => hk.2) (.slice Ao34 y334.length co34)) (fun _ hk => trivial)⟩, ⟨by exact Kd.R_mono (Kd.R_far (p := ⟨gb329, 0, none⟩) (Kd.R_types HO336.out BK329.out (by decide)) (fun _ hk => hk.2) (.slice Ao34 y334.length co34)) (fun _ hk => trivial)⟩, ⟨by refine blk_far ?_ NB318_329.out _; exact BK318.out⟩, ⟨by refine blk_put (cs := #[u330000]) ?_ 0 _ rfl; exact BK329.out⟩, ⟨by repeat (first | (with_reducible first | exact HB.out | apply below_alloc | apply pw_below_drewN | apply below_drew1 | refine below_set ?_ GE318.out | refine below_set ?_ GE329.out | refine below_set ?_ GE333.out) | exact HB.out)⟩, ⟨by rw [SM.next_rd t326 x41_2 lm2 HLM2.out HLN.out HLL.out HLL2.out HSZ.out]; (with_reducible repeat (first | refine SM.Is.drewN ?_ _ | refine SM.Is.drew ?_ | refine SM.Is.alloc ?_ _)); refine SM.Is.far ?_ NBM_329.out _; (with_reducible repeat (first | refine SM.Is.drewN ?_ _ | refine SM.Is.drew ?_ | refine SM.Is.alloc ?_ _)); exact BKM.out⟩⟩
          ·
           rw [if_neg c26] at H
           exact absurd H (by simp)
         ·
          rw [if_neg c25] at H
          have c25b0 : ((rdOf ByteArray.empty t326 x41_2).toList == ([] : List UInt8)) = false := beq_eq_false_iff_ne.mpr c25
          have c25b1 : ((rdOf ByteArray.empty t326 x41_2).toList != ([] : List UInt8)) = true := bne_iff_ne.mpr c25
          obtain ⟨ji36, hji36⟩ : ∃ j_ : Int, (wrap64 (((rdOf ByteArray.empty t326 x41_2).size : Int) - 1)) = j_ := ⟨_, rfl⟩
          replace H : (if 0 ≤ (ji36) then (if (ji36) < ((rdOf ByteArray.empty t326 x41_2).size : Int) then (if (ji36) ≤ ((rdOf ByteArray.empty t326 x41_2).size : Int) then (if x330000_2.length < 5864062014805 then (impl_trieOf.l2 k2 l0 t326 (t326.length : Int) (wrap64 (x41_2 + 1)) (x330000_2 ++ [(⟨((bt (rdOf ByteArray.empty t326 x41_2) (ji36)) - 97) % 256, SM.at_ (List.take ((x41_2 : Int).toNat + 1) t326) ((rdOf ByteArray.empty t326 x41_2).extract 0 ((ji36) : Int).toNat), t332⟩ : S73)])) else (none)) else (none)) else (none)) else (none)) = some r := by first | (rw [hji36] at H; exact H) | (simp only [hji36] at H ⊢; exact H)
          (try rw [hji36] at A24)
          have hji36w : (IntKind.i64.wrap (((rdOf ByteArray.empty t326 x41_2).size : Int) - 1)) = ji36 := (i64_w _).trans hji36
          obtain ⟨mv, hmv⟩ : ∃ m_ : Int, SM.at_ (List.take ((x41_2 : Int).toNat + 1) t326) ((rdOf ByteArray.empty t326 x41_2).extract 0 ((ji36) : Int).toNat) = m_ := ⟨_, rfl⟩
          rw [hmv] at H
          have HMV := aM_ hmv
          clear hmv
          by_cases c37 : 0 ≤ (ji36)
          ·
           rw [if_pos c37] at H
           have c37b0 := decide_eq_true c37
           clear c37
           by_cases c38 : (ji36) < ((rdOf ByteArray.empty t326 x41_2).size : Int)
           ·
            rw [if_pos c38] at H
            have c38b0 := decide_eq_true c38
            clear c38
            have c40b0 := eq_true (of_decide_eq_true (by first | (with_reducible assumption) | assumption) : 0 ≤ (ji36))
            by_cases c41 : (ji36) ≤ ((rdOf ByteArray.empty t326 x41_2).size : Int)
            ·
             rw [if_pos c41] at H
             have c41b0 := eq_true c41
             have c41b1 := decide_eq_true c41
             clear c41
             by_cases c42 : x330000_2.length < 5864062014805
             ·
              rw [if_pos c42] at H
              have LMc42 := aM_ c42
              clear c42
              obtain ⟨y337, hy337⟩ : ∃ y_ : List (S73), y_ = (x330000_2 ++ [(⟨((bt (rdOf ByteArray.empty t326 x41_2) (ji36)) - 97) % 256, mv, t332⟩ : S73)]) := ⟨_, rfl⟩
              replace H : (impl_trieOf.l2 k2 l0 t326 (t326.length : Int) (wrap64 (x41_2 + 1)) y337) = some r := by first | (rw [hy337]; with_reducible exact H) | (have H2_ := (Option.bind_some _ _).symm.trans H; rw [hy337]; with_reducible exact H2_) | (have H2_ := (Option.bind_some _ _).symm.trans H; with_reducible exact H2_) | with_reducible exact H | (rw [hy337]; exact H) | exact H
              have Ny337 := aM_ hy337
              clear hy337
              have H' := aM_ H
              clear H
              have p330 : 0 ≤ (x41_2 : Int) := of_decide_eq_true (by first | (with_reducible assumption) | assumption)
              have q330 : x41_2 < (t326.length : Int) := of_decide_eq_true (by first | (with_reducible assumption) | assumption)
              have HLL := aM_ (show (lm.length : Int) = x41_2 from by rw [HLM.out, List.length_take]; omega)
              have HLL2 := aM_ (show lm.length < t326.length from by rw [HLM.out, List.length_take]; omega)
              have HLP := aM_ (SM.okL.size HSZ.out x41_2 p330 q330)
              have HLN := aM_ (show lm ++ [rdOf ByteArray.empty t326 x41_2] = List.take ((x41_2 : Int).toNat + 1) t326 from by rw [HLM.out]; exact SM.take_rd t326 x41_2 p330 q330)
              have hwz_ : wrap64 ((bt (rdOf ByteArray.empty t326 x41_2) ji36 - 97) % 256) = (bt (rdOf ByteArray.empty t326 x41_2) ji36 - 97) % 256 := by unfold wrap64; omega
              obtain ⟨ad330, e330, hx330_0⟩ := Kd.at_string (Kd.R_reads' HO_39.out).2.2 x41_2 p330 q330
              cases e330
              replace p330 := eq_true p330
              replace q330 := eq_true q330
              try go_wp2_with (first | (at_mapUpdate; refine SM.put rfl (.tmp 46) (.tmp 47) (.tmp 48) 88 Tryd.underlying88 rfl gbM lm rfl (by (with_reducible repeat (first | refine SM.Is.drewN ?_ _ | refine SM.Is.drew ?_ | refine SM.Is.alloc ?_ _)); exact BKM.out) ?hn (rdOf ByteArray.empty t326 x41_2) ?hp rfl ?hv ?_; (case hn => have h1_ := SM.okL.len HSZ.out; have h2_ := HLL2.out; omega); (case hp => have h1_ := HLP.out; unfold maxLen; omega); (case hv => exact (congrArg (Value.int IntKind.i64) HLL.out).symm); intro w9m h1m hgm; obtain ⟨lm2, hlm2⟩ : ∃ l_ : List ByteArray, l_ = lm ++ [rdOf ByteArray.empty t326 x41_2] := ⟨_, rfl⟩; rw [← hlm2] at h1m; have HLM2 := aM_ hlm2; clear hlm2; have nr0_ := aM_ (SM.R_over HO_39.out (by (with_reducible repeat (first | refine SM.Is.drewN ?_ _ | refine SM.Is.drew ?_ | refine SM.Is.alloc ?_ _)); exact BKM.out) hgm); have nr1_ := aM_ (SM.R_over HO_330000.out (by (with_reducible repeat (first | refine SM.Is.drewN ?_ _ | refine SM.Is.drew ?_ | refine SM.Is.alloc ?_ _)); exact BKM.out) hgm); have nb_ := aM_ (blk_grown (g := gb318) (o := .cells #[.slice none 0 0] 44 (0, 0)) BK318.out hgm (fun e_ => NBM_318.out (Option.some.inj e_).symm)); have nt_ := aM_ (blk_grown (g := gb329) BK329.out hgm (fun e_ => NBM_329.out (Option.some.inj e_).symm)); have nh_ := aM_ (RowKit.Below.grown HB.out hgm (below_size HB.out) (fun j hj => by cases hj; exact GEM.out)); clear HO_39 HO_330000 BK318 BK329 HB BKM; have HO_39 := nr0_; clear nr0_; have HO_330000 := nr1_; clear nr1_; have BK318 := nb_; have BK329 := nt_; have HB := nh_; have BKM := aM_ h1m; clear nb_ nt_ nh_ h1m hgm) | ((with_reducible refine gate_callee (f := 65) rfl ?_); refine goesL_ (some 52) rfl rfl Tryd.func65 (by kernel_rfl) rfl #[.slice A0 l0.length c0, .string (rdOf ByteArray.empty t326 x41_2)] rfl (by (try simp only [sD_, sE_, sF_]); first | done | rfl | (simp only [sG_, sH_]; rfl)) ?_; (with_reducible refine (slices_BinarySearch_string_string.calls k2 _ _ l0 (rdOf ByteArray.empty t326 x41_2) t331 t332 _ ?side1 ?side2 A24.out).mono ?_); (case side1 => repeat (first | exact (Kd.C_below HR0.out HB.out) | (with_reducible refine Kd.C_alloc ?_ _) | (with_reducible refine Kd.C_drewN ?_ _) | (with_reducible refine Kd.C_drew ?_))); (case side2 => exact HC0.out); rintro e w' ⟨rfl, ⟨nd, rfl⟩⟩; refine ⟨_, rfl, ?_⟩; (try (rw [drewN_self wr]; generalize hq_ : World.drewN wr _ = wr; have n0_ : Aside0 (Kd.R k73 73 wr w.heap.size (fun _ => True) u330000 x330000_2) := ⟨by rw [← hq_]; exact (by (with_reducible repeat (first | apply Kd.R_alloc | apply Kd.R_drewN | apply Kd.R_drew)); exact HO_330000.out)⟩; have n1_ : Aside0 (Kd.R Kd.string 9 wr w.heap.size (fun _ => True) (.slice (some ad330) t326.length co20) t326) := ⟨by rw [← hq_]; exact (by (with_reducible repeat (first | apply Kd.R_alloc | apply Kd.R_drewN | apply Kd.R_drew)); exact HO_39.out)⟩; have n2_ : Aside0 (wr.heap[gb318]? = some (.cells #[.slice none 0 0] 44 (0, 0))) := ⟨by rw [← hq_]; exact (by (with_reducible repeat (first | refine blk_drewN ?_ _ | refine blk_drew ?_ | refine blk_alloc ?_ _)); exact BK318.out)⟩; have n29_ : Aside0 (SM.Is wr gbM lm2) := ⟨by rw [← hq_]; exact (by (with_reducible repeat (first | refine SM.Is.drewN ?_ _ | refine SM.Is.drew ?_ | refine SM.Is.alloc ?_ _)); exact BKM.out)⟩; have n3_ : Aside0 (wr.heap[gb329]? = some (.cells #[u330000] 44 (0, 0))) := ⟨by rw [← hq_]; exact (by (with_reducible repeat (first | refine blk_drewN ?_ _ | refine blk_drew ?_ | refine blk_alloc ?_ _)); exact BK329.out)⟩; have n4_ : Aside0 (Below w.heap.size w wr) := ⟨by rw [← hq_]; exact (by repeat (first | (with_reducible first | exact HB.out | apply below_alloc | apply pw_below_drewN | apply below_drew1 | refine below_set ?_ GE318.out | refine below_set ?_ GE329.out) | exact HB.out))⟩; clear HO_330000 HO_39 BKM BK318 BK329 HB hq_; have HO_330000 := n0_; have HO_39 := n1_; have BK318 := n2_; have BKM := n29_; have BK329 := n3_; have HB := n4_; clear n0_ n1_ n2_ n3_ n4_ n29_))) | ((with_reducible refine gate_dst (N := 13) rfl ?_); refine box_event ?hg (N := 13) ?hd (cs := #[.int .i64 0, .int .i64 0, .bool false]) (t := 73) ?hr ?_; (case hd => rfl); (case hg => rfl); (case hr => first | (go_simp; done) | (go_simp; rfl)); intro gb333 hg w43 hbox hb; have n0_ := aM_ (Kd.R_below (by (with_reducible repeat (first | apply Kd.R_alloc | apply Kd.R_drewN | apply Kd.R_drew)); exact HO_39.out) hb); have n1_ := aM_ (Kd.R_below (Kd.R_elderB (by (with_reducible repeat (first | apply Kd.R_alloc | apply Kd.R_drewN | apply Kd.R_drew)); exact HO_330000.out) gb333 (Nat.le_of_eq hg.symm)) hb); have n2_ := aM_ (blk_below (g := gb318) (o := .cells #[.slice none 0 0] 44 (0, 0)) (by (with_reducible repeat (first | refine blk_drewN ?_ _ | refine blk_drew ?_ | refine blk_alloc ?_ _)); exact BK318.out) hb); have n29_ := aM_ (SM.Is.below (l := lm2) (by (with_reducible repeat (first | refine SM.Is.drewN ?_ _ | refine SM.Is.drew ?_ | refine SM.Is.alloc ?_ _)); exact BKM.out) hb); have n3_ := aM_ (blk_below (g := gb329) (o := .cells #[u330000] 44 (0, 0)) (by (with_reducible repeat (first | refine blk_drewN ?_ _ | refine blk_drew ?_ | refine blk_alloc ?_ _)); exact BK329.out) hb); have n4_ := aM_ (below_step (by repeat (first | (with_reducible first | exact HB.out | apply below_alloc | apply pw_below_drewN | apply below_drew1 | refine below_set ?_ GE318.out | refine below_set ?_ GE329.out) | exact HB.out)) hb); have n5_ := aM_ (hbox); have n6_ := aM_ ((by rw [hg]; exact (below_size (by repeat (first | (with_reducible first | exact HB.out | apply below_alloc | apply pw_below_drewN | apply below_drew1 | refine below_set ?_ GE318.out | refine below_set ?_ GE329.out) | exact HB.out))) : w.heap.size ≤ gb333)); have n7_ := aM_ ((by rw [hg]; exact (below_size (by repeat (first | (with_reducible first | exact HB.out | apply below_alloc | apply pw_below_drewN | apply below_drew1 | refine below_set ?_ GE318.out | refine below_set ?_ GE329.out) | exact HB.out))) : w.heap.size ≤ gb333)); have n8_ := aM_ ((by rw [hg]; exact Nat.ne_of_lt (blk_lt (g := gb318) (o := .cells #[.slice none 0 0] 44 (0, 0)) (by (with_reducible repeat (first | refine blk_drewN ?_ _ | refine blk_drew ?_ | refine blk_alloc ?_ _)); exact BK318.out)) : gb318 ≠ gb333)); have n89_ := aM_ ((by rw [hg]; exact Nat.ne_of_lt (SM.Is.lt (l := lm2) (by (with_reducible repeat (first | refine SM.Is.drewN ?_ _ | refine SM.Is.drew ?_ | refine SM.Is.alloc ?_ _)); exact BKM.out)) : gbM ≠ gb333)); have n9_ := aM_ ((by rw [hg]; exact Nat.ne_of_gt (blk_lt (g := gb318) (o := .cells #[.slice none 0 0] 44 (0, 0)) (by (with_reducible repeat (first | refine blk_drewN ?_ _ | refine blk_drew ?_ | refine blk_alloc ?_ _)); exact BK318.out)) : gb333 ≠ gb318)); have n99_ := aM_ ((by rw [hg]; exact Nat.ne_of_gt (SM.Is.lt (l := lm2) (by (with_reducible repeat (first | refine SM.Is.drewN ?_ _ | refine SM.Is.drew ?_ | refine SM.Is.alloc ?_ _)); exact BKM.out)) : gb333 ≠ gbM)); have n10_ := aM_ ((by rw [hg]; exact Nat.ne_of_lt (blk_lt (g := gb329) (o := .cells #[u330000] 44 (0, 0)) (by (with_reducible repeat (first | refine blk_drewN ?_ _ | refine blk_drew ?_ | refine blk_alloc ?_ _)); exact BK329.out)) : gb329 ≠ gb333)); have n11_ := aM_ ((by rw [hg]; exact Nat.ne_of_gt (blk_lt (g := gb329) (o := .cells #[u330000] 44 (0, 0)) (by (with_reducible repeat (first | refine blk_drewN ?_ _ | refine blk_drew ?_ | refine blk_alloc ?_ _)); exact BK329.out)) : gb333 ≠ gb329)); clear HO_39; clear HO_330000; clear BKM; clear BK318; clear BK329; clear HB; have HO_39 := n0_; have HO_330000 := n1_; have BK318 := n2_; have BKM := n29_; have BK329 := n3_; have HB := n4_; have BK333 := n5_; have GW333 := n6_; have GE333 := n7_; have NB318_333 := n8_; have NBM_333 := n89_; have NB333_318 := n9_; have NB333_M := n99_; have NB329_333 := n10_; have NB333_329 := n11_; clear n0_ n1_ n2_ n3_ n4_ n5_ n6_ n7_ n8_ n9_ n10_ n11_ n29_ n89_ n99_; clear hb hbox hg; have hnb44 := NB333_318.out; have hnc44 := NB318_333.out; have hnb45 := NB333_329.out; have hnc45 := NB329_333.out; have hcz46_0 : w43.cell? ⟨gb333, 0, none⟩ = some (.int .i64 0) := (blk_cell BK333.out 0).trans rfl; have hcz46_1 : w43.cell? ⟨gb333, 1, none⟩ = some (.int .i64 0) := (blk_cell BK333.out 1).trans rfl; have hcz46_2 : w43.cell? ⟨gb333, 2, none⟩ = some (.bool false) := (blk_cell BK333.out 2).trans rfl; have hfz46_0 := blk_frozen BK333.out 0; have hfz46_1 := blk_frozen BK333.out 1; have hfz46_2 := blk_frozen BK333.out 2))
              have n0_ : Aside0 (Kd.R Kd.string 9 (((w43.setCell ⟨gb333, 0, none⟩ (.int .i64 (-1))).setCell ⟨gb333, 1, none⟩ (.int .i64 (-1))).setCell ⟨gb333, 2, none⟩ (.bool t332)) w.heap.size (fun _ => True) (.slice (some ad330) t326.length co20) t326) := ⟨by exact Kd.R_mono (Kd.R_far (p := ⟨gb333, 2, none⟩) (Kd.R_far (p := ⟨gb333, 1, none⟩) (Kd.R_far (p := ⟨gb333, 0, none⟩) (Kd.R_types HO_39.out BK333.out (by decide)) (fun _ hk => hk.2) (.int .i64 (-1))) (fun _ hk => hk.2) (.int .i64 (-1))) (fun _ hk => hk.2) (.bool t332)) (fun _ hk => trivial)⟩
              have n1_ : Aside0 (Kd.R k73 73 (((w43.setCell ⟨gb333, 0, none⟩ (.int .i64 (-1))).setCell ⟨gb333, 1, none⟩ (.int .i64 (-1))).setCell ⟨gb333, 2, none⟩ (.bool t332)) w.heap.size (fun k_ => k_ ≠ gb333) u330000 x330000_2) := ⟨by exact Kd.R_mono (Kd.R_far (p := ⟨gb333, 2, none⟩) (Kd.R_far (p := ⟨gb333, 1, none⟩) (Kd.R_far (p := ⟨gb333, 0, none⟩) (Kd.R_mono HO_330000.out (fun k_ hk => (⟨hk, hk.2⟩ : _ ∧ k_ ≠ gb333))) (fun _ hk => hk.2) (.int .i64 (-1))) (fun _ hk => hk.2) (.int .i64 (-1))) (fun _ hk => hk.2) (.bool t332)) (fun _ hk => hk.1.2)⟩
              have n2_ : Aside0 ((((w43.setCell ⟨gb333, 0, none⟩ (.int .i64 (-1))).setCell ⟨gb333, 1, none⟩ (.int .i64 (-1))).setCell ⟨gb333, 2, none⟩ (.bool t332)).heap[gb318]? = some (.cells #[.slice none 0 0] 44 (0, 0))) := ⟨by refine blk_far ?_ NB318_333.out _; refine blk_far ?_ NB318_333.out _; refine blk_far ?_ NB318_333.out _; exact BK318.out⟩
              have n29_ : Aside0 (SM.Is (((w43.setCell ⟨gb333, 0, none⟩ (.int .i64 (-1))).setCell ⟨gb333, 1, none⟩ (.int .i64 (-1))).setCell ⟨gb333, 2, none⟩ (.bool t332)) gbM lm2) := ⟨by (with_reducible repeat (first | refine SM.Is.drewN ?_ _ | refine SM.Is.drew ?_ | refine SM.Is.alloc ?_ _)); refine SM.Is.far ?_ NBM_333.out _; (with_reducible repeat (first | refine SM.Is.drewN ?_ _ | refine SM.Is.drew ?_ | refine SM.Is.alloc ?_ _)); refine SM.Is.far ?_ NBM_333.out _; (with_reducible repeat (first | refine SM.Is.drewN ?_ _ | refine SM.Is.drew ?_ | refine SM.Is.alloc ?_ _)); refine SM.Is.far ?_ NBM_333.out _; (with_reducible repeat (first | refine SM.Is.drewN ?_ _ | refine SM.Is.drew ?_ | refine SM.Is.alloc ?_ _)); exact BKM.out⟩
              have n3_ : Aside0 ((((w43.setCell ⟨gb333, 0, none⟩ (.int .i64 (-1))).setCell ⟨gb333, 1, none⟩ (.int .i64 (-1))).setCell ⟨gb333, 2, none⟩ (.bool t332)).heap[gb329]? = some (.cells #[u330000] 44 (0, 0))) := ⟨by refine blk_far ?_ NB329_333.out _; refine blk_far ?_ NB329_333.out _; refine blk_far ?_ NB329_333.out _; exact BK329.out⟩
              have n4_ : Aside0 ((((w43.setCell ⟨gb333, 0, none⟩ (.int .i64 (-1))).setCell ⟨gb333, 1, none⟩ (.int .i64 (-1))).setCell ⟨gb333, 2, none⟩ (.bool t332)).heap[gb333]? = some (.cells #[.int .i64 (-1), .int .i64 (-1), .bool t332] 73 (0, 0))) := ⟨by refine blk_put (cs := #[.int .i64 (-1), .int .i64 (-1), .bool false]) ?_ 2 _ rfl; refine blk_put (cs := #[.int .i64 (-1), .int .i64 0, .bool false]) ?_ 1 _ rfl; refine blk_put (cs := #[.int .i64 0, .int .i64 0, .bool false]) ?_ 0 _ rfl; exact BK333.out⟩
              have n5_ : Aside0 (Below w.heap.size w (((w43.setCell ⟨gb333, 0, none⟩ (.int .i64 (-1))).setCell ⟨gb333, 1, none⟩ (.int .i64 (-1))).setCell ⟨gb333, 2, none⟩ (.bool t332))) := ⟨by repeat (first | (with_reducible first | exact HB.out | apply below_alloc | apply pw_below_drewN | apply below_drew1 | refine below_set ?_ GE318.out | refine below_set ?_ GE329.out | refine below_set ?_ GE333.out) | exact HB.out)⟩
              (try clear HO_39)
              (try clear HO_330000)
              (try clear BK318); (try clear BKM)
              (try clear BK329)
              (try clear BK333)
              (try clear HB)
              generalize (((w43.setCell ⟨gb333, 0, none⟩ (.int .i64 (-1))).setCell ⟨gb333, 1, none⟩ (.int .i64 (-1))).setCell ⟨gb333, 2, none⟩ (.bool t332)) = w47 at n0_ n1_ n2_ n3_ n4_ n5_ n29_ ⊢
              have HO_39 := n0_
              have HO_330000 := n1_
              have BK318 := n2_
              have BKM := n29_
              have BK329 := n3_
              have BK333 := n4_
              have HB := n5_
              clear n0_ n1_ n2_ n3_ n4_ n5_ n29_
              have n0_ := aM_ (Kd.R_drew HO_39.out)
              have n1_ := aM_ (Kd.R_drew HO_330000.out)
              have n2_ := aM_ (blk_drew BK318.out)
              have n29_ := aM_ (SM.Is.drew BKM.out)
              have n3_ := aM_ (blk_drew BK329.out)
              have n4_ := aM_ (blk_drew BK333.out)
              have n5_ := aM_ (below_drew1 HB.out)
              clear HO_39
              clear HO_330000
              clear BKM; clear BK318
              clear BK329
              clear BK333
              clear HB
              have HO_39 := n0_
              have HO_330000 := n1_
              have BK318 := n2_
              have BKM := n29_
              have BK329 := n3_
              have BK333 := n4_
              have HB := n5_
              clear n0_ n1_ n2_ n3_ n4_ n5_ n29_
              have p39 : 0 ≤ ((ji36) : Int) := of_decide_eq_true (by first | (with_reducible assumption) | assumption)
              have q39 : (ji36) < ((rdOf ByteArray.empty t326 x41_2).size : Int) := of_decide_eq_true (by first | (with_reducible assumption) | assumption)
              have hx39 := bt_at (rdOf ByteArray.empty t326 x41_2) (ji36)
              replace p39 := eq_true p39
              replace q39 := eq_true q39
              refine start_ (n := 18) (S := fun w' => SM.Is w' gbM lm2) (ds := []) #[fy, fy, fy, fy, fy, fy, fy, fy, fy, fy, fy, fy, fy, fy, fy, fy, fy, fy] (by kernel_rfl) rfl rfl (SM.Is.drew BKM.out) (fun hHeld => ?_); refine with_tabW impl_trieOf.tab20 impl_trieOf.bits20 (fun HT_ HW_ => ?_)
              generalize w47.drew = w48 at HO_39 HO_330000 BKM BK318 BK329 BK333 HB hHeld ⊢
              refine pure_ (i := 0) (N := some 59) (v := ?_) (a' := ?_) #[ty, fy, fy, fy, fy, fy, fy, fy, fy, fy, fy, fy, fy, fy, fy, fy, fy, fy] rfl rfl (any_of HT_.out (by kernel_rfl)) (fun _ _ _ h => h) (Or.inl ⟨by rfl, ?_⟩) ?_ ?_; rotate_left; (intro w'; go_simp; with_reducible rfl); rotate_left; (simp only [Act.put, sA_, sB_, sC_, i64_w, i32_w]; rfl)
              refine pure_ (i := 1) (N := some 60) (v := ?_) (a' := ?_) #[ty, ty, fy, fy, fy, fy, fy, fy, fy, fy, fy, fy, fy, fy, fy, fy, fy, fy] rfl rfl (any_of HT_.out (by kernel_rfl)) (fun _ _ _ h => h) (Or.inl ⟨by rfl, ?_⟩) ?_ ?_; rotate_left; (intro w'; go_simp; with_reducible rfl); rotate_left; (simp only [Act.put, sA_, sB_, sC_, i64_w, i32_w]; rfl)
              refine pure_ (i := 2) (N := some 61) (v := ?_) (a' := ?_) #[ty, ty, ty, fy, fy, fy, fy, fy, fy, fy, fy, fy, fy, fy, fy, fy, fy, fy] rfl rfl (any_of HT_.out (by kernel_rfl)) (fun _ _ _ h => h) (Or.inl ⟨by rfl, ?_⟩) ?_ ?_; rotate_left; (intro w'; go_simp; with_reducible rfl); rotate_left; (simp only [Act.put, sA_, sB_, sC_, i64_w, i32_w]; rfl)
              refine pure_ (i := 3) (N := some 62) (v := ?_) (a' := ?_) #[ty, ty, ty, ty, fy, fy, fy, fy, fy, fy, fy, fy, fy, fy, fy, fy, fy, fy] rfl rfl (any_of HT_.out (by kernel_rfl)) (fun _ _ _ h => h) (Or.inl ⟨by rfl, ?_⟩) ?_ ?_; rotate_left; (intro w'; go_simp; with_reducible rfl); rotate_left; (simp only [Act.put, sA_, sB_, sC_, i64_w, i32_w]; rfl)
              refine pure_ (i := 7) (N := some 66) (v := ?_) (a' := ?_) #[ty, ty, ty, ty, fy, fy, fy, ty, fy, fy, fy, fy, fy, fy, fy, fy, fy, fy] rfl rfl (any_of HT_.out (by kernel_rfl)) (fun _ _ _ h => h) (Or.inl ⟨by rfl, ?_⟩) ?_ ?_; rotate_left; (intro w'; go_simp; with_reducible rfl); rotate_left; (simp only [Act.put, sA_, sB_, sC_, i64_w, i32_w]; rfl)
              refine pure_ (i := 8) (N := some 67) (v := ?_) (a' := ?_) #[ty, ty, ty, ty, fy, fy, fy, ty, ty, fy, fy, fy, fy, fy, fy, fy, fy, fy] rfl rfl (any_of HT_.out (by kernel_rfl)) (fun _ _ _ h => h) (Or.inl ⟨by rfl, ?_⟩) ?_ ?_; rotate_left; (intro w'; go_simp; with_reducible rfl); rotate_left; (simp only [Act.put, sA_, sB_, sC_, i64_w, i32_w]; rfl)
              refine pure_ (i := 9) (N := some 68) (v := ?_) (a' := ?_) #[ty, ty, ty, ty, fy, fy, fy, ty, ty, ty, fy, fy, fy, fy, fy, fy, fy, fy] rfl rfl (any_of HT_.out (by kernel_rfl)) (fun _ _ _ h => h) (Or.inl ⟨by rfl, ?_⟩) ?_ ?_; rotate_left; (intro w'; go_simp; with_reducible rfl); rotate_left; (simp only [Act.put, sA_, sB_, sC_, i64_w, i32_w]; rfl)
              refine pure_ (i := 10) (N := some 69) (v := ?_) (a' := ?_) #[ty, ty, ty, ty, fy, fy, fy, ty, ty, ty, ty, fy, fy, fy, fy, fy, fy, fy] rfl rfl (any_of HT_.out (by kernel_rfl)) (fun _ _ _ h => h) (Or.inl ⟨by rfl, ?_⟩) ?_ ?_; rotate_left; (intro w'; go_simp; with_reducible rfl); rotate_left; (simp only [Act.put, sA_, sB_, sC_, i64_w, i32_w]; rfl)
              refine pure_ (i := 11) (N := some 70) (v := ?_) (a' := ?_) #[ty, ty, ty, ty, fy, fy, fy, ty, ty, ty, ty, ty, fy, fy, fy, fy, fy, fy] rfl rfl (any_of HT_.out (by kernel_rfl)) (fun _ _ _ h => h) (Or.inl ⟨by rfl, ?_⟩) ?_ ?_; rotate_left; (intro w'; go_simp; with_reducible rfl); rotate_left; (simp only [Act.put, sA_, sB_, sC_, i64_w, i32_w]; rfl)
              refine pure_ (i := 12) (N := some 71) (v := ?_) (a' := ?_) #[ty, ty, ty, ty, fy, fy, fy, ty, ty, ty, ty, ty, ty, fy, fy, fy, fy, fy] rfl rfl (any_of HT_.out (by kernel_rfl)) (fun _ _ _ h => h) (Or.inl ⟨by rfl, ?_⟩) ?_ ?_; rotate_left; (intro w'; go_simp; with_reducible rfl); rotate_left; (simp only [Act.put, sA_, sB_, sC_, i64_w, i32_w]; rfl)
              refine take_ (i := 13) (N := some 72) (v := ?_) (a' := ?_) #[ty, ty, ty, ty, fy, fy, fy, ty, ty, ty, ty, ty, ty, ty, fy, fy, fy, fy] rfl rfl (take_ofW HT_.out HW_.out (by kernel_rfl)) (fun _ _ _ h => h) (Or.inl ⟨by rfl, ?_⟩) hHeld ?_ ?_
              rotate_left
              ·
               intro w' hS_
               have hlk_ := SM.get hS_ 88 Tryd.underlying88 ((rdOf ByteArray.empty t326 x41_2).extract 0 ((ji36) : Int).toNat) (SM.size_ext _ _ HLP.out)
               rw [show SM.at_ lm2 ((rdOf ByteArray.empty t326 x41_2).extract 0 ((ji36) : Int).toNat) = mv from by rw [HLM2.out, HLN.out]; exact HMV.out] at hlk_
               go_simp
               with_reducible rfl
              rotate_left
              ·
               simp only [Act.put, sA_, sB_, sC_, i64_w, i32_w]
               rfl
              refine take_ (i := 4) (N := some 63) (v := ?_) (a' := ?_) #[ty, ty, ty, ty, ty, fy, fy, ty, ty, ty, ty, ty, ty, ty, fy, fy, fy, fy] rfl rfl (take_ofW HT_.out HW_.out (by kernel_rfl)) (fun _ _ _ h => h) (Or.inl ⟨by rfl, ?_⟩) hHeld ?_ ?_; rotate_left; (intro w' _; go_simp; with_reducible rfl); rotate_left; (simp only [Act.put, sA_, sB_, sC_, i64_w, i32_w]; rfl)
              refine pure_ (i := 5) (N := some 64) (v := ?_) (a' := ?_) #[ty, ty, ty, ty, ty, ty, fy, ty, ty, ty, ty, ty, ty, ty, fy, fy, fy, fy] rfl rfl (any_of HT_.out (by kernel_rfl)) (fun _ _ _ h => h) (Or.inl ⟨by rfl, ?_⟩) ?_ ?_; rotate_left; (intro w'; go_simp; with_reducible rfl); rotate_left; (simp only [Act.put, sA_, sB_, sC_, i64_w, i32_w]; rfl)
              refine pure_ (i := 6) (N := some 65) (v := ?_) (a' := ?_) #[ty, ty, ty, ty, ty, ty, ty, ty, ty, ty, ty, ty, ty, ty, fy, fy, fy, fy] rfl rfl (any_of HT_.out (by kernel_rfl)) (fun _ _ _ h => h) (Or.inl ⟨by rfl, ?_⟩) ?_ ?_; rotate_left; (intro w'; go_simp; with_reducible rfl); rotate_left; (simp only [Act.put, sA_, sB_, sC_, i64_w, i32_w]; rfl)
              refine pure_ (i := 14) (N := some 73) (v := ?_) (a' := ?_) #[ty, ty, ty, ty, ty, ty, ty, ty, ty, ty, ty, ty, ty, ty, ty, fy, fy, fy] rfl rfl (any_of HT_.out (by kernel_rfl)) (fun _ _ _ h => h) (Or.inl ⟨by rfl, ?_⟩) ?_ ?_; rotate_left; (intro w'; go_simp; with_reducible rfl); rotate_left; (simp only [Act.put, sA_, sB_, sC_, i64_w, i32_w]; rfl)
              refine one_ (i := 15) (N := none) #[ty, ty, ty, ty, ty, ty, ty, ty, ty, ty, ty, ty, ty, ty, ty, ty, fy, fy] rfl rfl (one_of HT_.out (by kernel_rfl)) (by decide) (fun K hK => ?_)
              have hs49 : w48.cell? ⟨gb333, 0, none⟩ = some (.int .i64 (-1)) := (blk_cell BK333.out 0).trans rfl
              have hfs49 := blk_frozen BK333.out 0
              have hns49_0 := NB318_333.out
              have hns49_1 := NB329_333.out
              have hms49_0 := NB333_318.out
              have hms49_1 := NB333_329.out
              refine skip_ (w1 := ?_) (by rfl) rfl ?_ ?_
              rotate_left
              ·
               go_simp
               rfl
              refine hK.out _ _ (by exact SM.Is.far hHeld NBM_333.out _) (fun hHeld => ?_)
              clear hK K
              refine pure_ (i := 16) (N := some 74) (v := ?_) (a' := ?_) #[ty, ty, ty, ty, ty, ty, ty, ty, ty, ty, ty, ty, ty, ty, ty, ty, ty, fy] rfl rfl (any_of HT_.out (by kernel_rfl)) (fun _ _ _ h => h) (Or.inl ⟨by rfl, ?_⟩) ?_ ?_; rotate_left; (intro w'; go_simp; with_reducible rfl); rotate_left; (simp only [Act.put, sA_, sB_, sC_, i64_w, i32_w]; rfl)
              refine one_ (i := 17) (N := none) #[ty, ty, ty, ty, ty, ty, ty, ty, ty, ty, ty, ty, ty, ty, ty, ty, ty, ty] rfl rfl (one_of HT_.out (by kernel_rfl)) (by decide) (fun K hK => ?_)
              have hs50 : w48.cell? ⟨gb333, 1, none⟩ = some (.int .i64 (-1)) := (blk_cell BK333.out 1).trans rfl
              have hfs50 := blk_frozen BK333.out 1
              have hns50_0 := NB318_333.out
              have hns50_1 := NB329_333.out
              have hms50_0 := NB333_318.out
              have hms50_1 := NB333_329.out
              refine skip_ (w1 := ?_) (by rfl) rfl ?_ ?_
              rotate_left
              ·
               go_simp
               rfl
              refine hK.out _ _ (by exact SM.Is.far hHeld NBM_333.out _) (fun hHeld => ?_)
              clear hK K
              refine done_ (done_of HT_.out (by kernel_rfl)) ?_
              have hnb51 := NB329_318.out
              have hnc51 := NB318_329.out
              have hcz52_0 : w48.cell? ⟨gb329, 0, none⟩ = some (u330000) := (blk_cell BK329.out 0).trans rfl
              have hfz52_0 := blk_frozen BK329.out 0
              have hcz53_0 : w48.cell? ⟨gb333, 0, none⟩ = some (.int .i64 (-1)) := (blk_cell BK333.out 0).trans rfl
              have hcz53_1 : w48.cell? ⟨gb333, 1, none⟩ = some (.int .i64 (-1)) := (blk_cell BK333.out 1).trans rfl
              have hcz53_2 : w48.cell? ⟨gb333, 2, none⟩ = some (.bool t332) := (blk_cell BK333.out 2).trans rfl
              have hfz53_0 := blk_frozen BK333.out 0
              have hfz53_1 := blk_frozen BK333.out 1
              have hfz53_2 := blk_frozen BK333.out 2
              try go_wp2_with (first | ((with_reducible refine gate_builtin (b := .append) (xs := #[.tmp 76, .tmp 78]) rfl ?_); at_builtin; refine Kd.R_append k73 (w0 := w) w.heap.size rfl (.tmp 76) (.tmp 78) 42 73 (.agg #[(.int .i64 0), (.int .i64 0), (.bool false)]) 24 rfl Tryd.underlying42 info73 rfl (by decide) (by omega) u330000 x330000_2 (⟨((bt (rdOf ByteArray.empty t326 x41_2) (ji36)) - 97) % 256, mv, t332⟩ : S73) [.int .i64 (((bt (rdOf ByteArray.empty t326 x41_2) (ji36)) - 97) % 256), .int .i64 mv, .bool t332] (fun k_ => k_ ≠ gb333) (fun _ => False) rfl (by first | (go_simp; done) | (go_simp; rfl)) ?aP (fun _ hk => hk.elim) ?aF ?aO ?aB ?aS ?aL ?_; (case aP => exact k73_mkM _ _ _ (⟨((bt (rdOf ByteArray.empty t326 x41_2) (ji36)) - 97) % 256, mv, t332⟩ : S73)); (case aB => exact (by repeat (first | (with_reducible first | exact HB.out | apply below_alloc | apply pw_below_drewN | apply below_drew1 | refine below_set ?_ GE318.out | refine below_set ?_ GE329.out | refine below_set ?_ GE333.out) | exact HB.out))); (case aF => exact (fun k_ hk => Kd.freshB (g := gb333) (o := .cells #[.int .i64 (((bt (rdOf ByteArray.empty t326 x41_2) (ji36)) - 97) % 256), .int .i64 mv, .bool t332] 73 (0, 0)) (by refine blk_put (cs := #[.int .i64 (((bt (rdOf ByteArray.empty t326 x41_2) (ji36)) - 97) % 256), .int .i64 (-1), .bool t332]) ?_ 1 _ rfl; refine blk_put (cs := #[.int .i64 (-1), .int .i64 (-1), .bool t332]) ?_ 0 _ rfl; exact BK333.out) k_ hk)); (case aO => exact (by exact Kd.R_mono (Kd.R_far (p := ⟨gb333, 1, none⟩) (Kd.R_far (p := ⟨gb333, 0, none⟩) (Kd.R_mono HO_330000.out (fun k_ hk => (⟨hk, hk⟩ : _ ∧ k_ ≠ gb333))) (fun _ hk => hk.2) (.int .i64 (((bt (rdOf ByteArray.empty t326 x41_2) (ji36)) - 97) % 256))) (fun _ hk => hk.2) (.int .i64 mv)) (fun _ hk => hk.1))); (case aS => exact (below_size (by repeat (first | (with_reducible first | exact HB.out | apply below_alloc | apply pw_below_drewN | apply below_drew1 | refine below_set ?_ GE318.out | refine below_set ?_ GE329.out | refine below_set ?_ GE333.out) | exact HB.out)))); (case aL => have := LMc42.out; omega); intro v338 w54 ho hb hg hat; rw [← Ny337.out] at ho; have n0_ := aM_ (Kd.R_over' (by exact (Kd.R_mono (Kd.R_far (p := ⟨gb333, 1, none⟩) (Kd.R_far (p := ⟨gb333, 0, none⟩) (Kd.R_types HO_39.out BK333.out (by decide)) (fun _ hk => hk.2) (.int .i64 (((bt (rdOf ByteArray.empty t326 x41_2) (ji36)) - 97) % 256))) (fun _ hk => hk.2) (.int .i64 mv)) (fun _ h_ => h_.1))) (Kd.R_typed (by exact (Kd.R_mono (Kd.R_far (p := ⟨gb333, 1, none⟩) (Kd.R_far (p := ⟨gb333, 0, none⟩) (Kd.R_mono HO_330000.out (fun k_ hk => (⟨hk, hk⟩ : _ ∧ k_ ≠ gb333))) (fun _ hk => hk.2) (.int .i64 (((bt (rdOf ByteArray.empty t326 x41_2) (ji36)) - 97) % 256))) (fun _ hk => hk.2) (.int .i64 mv)) (fun _ h_ => h_.1)))) (by decide) hg); have n1_ := aM_ (blk_grown (g := gb318) (o := .cells #[.slice none 0 0] 44 (0, 0)) (by refine blk_far ?_ NB318_333.out _; refine blk_far ?_ NB318_333.out _; exact BK318.out) hg (Kd.R_ne HO_330000.out BK318.out (by decide))); have n19_ := aM_ (SM.Is.grown (l := lm2) (by (with_reducible repeat (first | refine SM.Is.drewN ?_ _ | refine SM.Is.drew ?_ | refine SM.Is.alloc ?_ _)); refine SM.Is.far ?_ NBM_333.out _; (with_reducible repeat (first | refine SM.Is.drewN ?_ _ | refine SM.Is.drew ?_ | refine SM.Is.alloc ?_ _)); refine SM.Is.far ?_ NBM_333.out _; (with_reducible repeat (first | refine SM.Is.drewN ?_ _ | refine SM.Is.drew ?_ | refine SM.Is.alloc ?_ _)); exact BKM.out) hg (SM.Is.ne BKM.out HO_330000.out)); have n2_ := aM_ (blk_grown (g := gb329) (o := .cells #[u330000] 44 (0, 0)) (by refine blk_far ?_ NB329_333.out _; refine blk_far ?_ NB329_333.out _; exact BK329.out) hg (Kd.R_ne HO_330000.out BK329.out (by decide))); have n3_ := aM_ (blk_grown (g := gb333) (o := .cells #[.int .i64 (((bt (rdOf ByteArray.empty t326 x41_2) (ji36)) - 97) % 256), .int .i64 mv, .bool t332] 73 (0, 0)) (by refine blk_put (cs := #[.int .i64 (((bt (rdOf ByteArray.empty t326 x41_2) (ji36)) - 97) % 256), .int .i64 (-1), .bool t332]) ?_ 1 _ rfl; refine blk_put (cs := #[.int .i64 (-1), .int .i64 (-1), .bool t332]) ?_ 0 _ rfl; exact BK333.out) hg (Kd.R_away HO_330000.out (fun _ hk => hk))); have n4_ := aM_ (hb); have n5_ := aM_ (ho); clear HO_39; clear BKM; clear BK318; clear BK329; clear BK333; clear HB; clear HO_330000; have HO_39 := n0_; have BK318 := n1_; have BKM := n19_; have BK329 := n2_; have BK333 := n3_; have HB := n4_; have HO339 := n5_; clear n0_ n1_ n2_ n3_ n4_ n5_ n19_; clear ho hb hg hat; obtain ⟨Ao55, co55, eo55⟩ := Kd.R_slice HO339.out; subst eo55; have hcz56_0 : w54.cell? ⟨gb329, 0, none⟩ = some (u330000) := (blk_cell BK329.out 0).trans rfl; have hfz56_0 := blk_frozen BK329.out 0))
              go_roundg k2
              case measure => have := HK1.out; have := HK2.out; omega
              case rel => exact ⟨(wrap64 (x41_2 + 1)), (y337), (.slice Ao55 y337.length co55), (by first | rfl | (simp; done) | (simp [*]; done)), H', ⟨by have := HK1.out; have := HK2.out; omega⟩, ⟨by exact Kd.R_mono (Kd.R_far (p := ⟨gb329, 0, none⟩) (Kd.R_types HO_39.out BK329.out (by decide)) (fun _ hk => hk.2) (.slice Ao55 y337.length co55)) (fun _ hk => trivial)⟩, ⟨by exact Kd.R_mono (Kd.R_far (p := ⟨gb329, 0, none⟩) (Kd.R_types HO339.out BK329.out (by decide)) (fun _ hk => hk.2) (.slice Ao55 y337.length co55)) (fun _ hk => trivial)⟩, ⟨by refine blk_far ?_ NB318_329.out _; exact BK318.out⟩, ⟨by refine blk_put (cs := #[u330000]) ?_ 0 _ rfl; exact BK329.out⟩, ⟨by repeat (first | (with_reducible first | exact HB.out | apply below_alloc | apply pw_below_drewN | apply below_drew1 | refine below_set ?_ GE318.out | refine below_set ?_ GE329.out | refine below_set ?_ GE333.out) | exact HB.out)⟩, ⟨by rw [SM.next_rd t326 x41_2 lm2 HLM2.out HLN.out HLL.out HLL2.out HSZ.out]; (with_reducible repeat (first | refine SM.Is.drewN ?_ _ | refine SM.Is.drew ?_ | refine SM.Is.alloc ?_ _)); refine SM.Is.far ?_ NBM_329.out _; (with_reducible repeat (first | refine SM.Is.drewN ?_ _ | refine SM.Is.drew ?_ | refine SM.Is.alloc ?_ _)); exact BKM.out⟩⟩
             ·
              rw [if_neg c42] at H
              exact absurd H (by simp)
            ·
             rw [if_neg c41] at H
             exact absurd H (by simp)
           ·
            rw [if_neg c38] at H
            exact absurd H (by simp)
          ·
           rw [if_neg c37] at H
           exact absurd H (by simp)
        ·
         rw [if_neg c23] at H
         exact absurd H (by simp)
       ·
        rw [if_neg c22] at H
        exact absurd H (by simp)
      ·
       rw [if_neg c21] at H
       have c21b0 := decide_eq_false c21
       clear c21
       obtain rfl := Option.some.inj H
       have hnb57 := NB329_318.out
       have hnc57 := NB318_329.out
       have hcz58_0 : wr.cell? ⟨gb329, 0, none⟩ = some (u330000) := (blk_cell BK329.out 0).trans rfl
       have hfz58_0 := blk_frozen BK329.out 0
       obtain ⟨Ao59, co59, eo59⟩ := Kd.R_slice HO_330000.out
       subst eo59
       have hcz60_0 : wr.cell? ⟨gb318, 0, none⟩ = some (.slice none 0 0) := (blk_cell BK318.out 0).trans rfl
       have hfz60_0 := blk_frozen BK318.out 0
       go_wp2
       refine bodyPost_ret (results_cell_row rfl _ _ gb318 44 #[.slice Ao59 x330000_2.length co59] (0, 0) _ rfl (by refine blk_put (cs := #[.slice none 0 0]) ?_ 0 _ rfl; exact BK318.out) Tryd.underlying44 rfl (by kernel_rfl)) rfl ?_
       exact ⟨_, by first | rfl | (simp [errW_none, errW_some] <;> rfl) | (simp [*, errW_none, errW_some] <;> rfl), by exact Kd.R_mono (Kd.R_far (p := ⟨gb318, 0, none⟩) (Kd.R_types HO_330000.out BK318.out (by decide)) (fun _ hk => hk.2) (.slice Ao59 x330000_2.length co59)) (fun _ hk => trivial), by repeat (first | (with_reducible first | exact HB.out | apply below_alloc | apply pw_below_drewN | apply below_drew1 | refine below_set ?_ GE318.out | refine below_set ?_ GE329.out) | exact HB.out)⟩
def impl_ofWords.f (k : Nat) (l0 : List ByteArray) : Option ((List (S73)) × Bool) := (impl_set.f l0).bind fun t341 => (if (t341.length : Int) > 40 then (some (([] : List (S73)), false)) else ((impl_trieOf.f k t341).bind fun t344 => (some (t344, true))))
theorem impl_ofWords.mono : ∀ a0 k, LeO (impl_ofWords.f k a0) (impl_ofWords.f (k + 1) a0) := by
 intro a0 k
 unfold impl_ofWords.f
 repeat' first
   | (with_reducible exact impl_trieOf.mono _ _)
   | (with_reducible exact LeO.refl _)
   | (with_reducible exact LeO.none _)
   | (with_reducible refine LeO.ite ?_ ?_)
   | (with_reducible refine LeO.bind ?_ (fun _ => ?_))
   | exact impl_trieOf.mono _ _
   | exact LeO.none _
   | refine LeO.ite ?_ ?_
   | refine LeO.bind ?_ (fun _ => ?_)
theorem impl_ofWords.calls (k : Nat) (A0 : Option Addr) (c0 : Nat) (l0 : List ByteArray) (r1 : List (S73)) (r2 : Bool) (w : World) (hr0 : Kd.C Kd.string w A0 l0.length l0) (hc0 : l0.length ≤ c0) (h : impl_ofWords.f k l0 = some (r1, r2)) :
  Calls Tryd.prog 41 #[.slice A0 l0.length c0] w fun e w' => ∃ v0_ : Value, e = .returned (.tuple #[.agg #[v0_], .bool r2]) ∧ Kd.R k73 73 w' w.heap.size (fun _ => True) v0_ r1 ∧ Below w.heap.size w w' := by
 have hu44 := Tryd.underlying44
 have HR0 := aM_ hr0
 have HC0 := aM_ hc0
 clear hr0 hc0
 have HB := aM_ (Below.refl w.heap.size w)
 have H : ((impl_set.f l0).bind fun t341 => (if (t341.length : Int) > 40 then (some (([] : List (S73)), false)) else ((impl_trieOf.f k t341).bind fun t344 => (some (t344, true))))) = some (r1, r2) := h
 clear h
 replace H := Option.bind_eq_some_iff.mp H
 obtain ⟨t341, A20, H⟩ := H
 try dsimp only at H
 have A2 := aM_ A20
 clear A20
 by_cases c3 : (t341.length : Int) > 40
 ·
  rw [if_pos c3] at H
  have c3b0 := decide_eq_true c3
  have c3b1 : decide (40 < t341.length) = true := decide_eq_true (by omega)
  clear c3
  simp only [Option.some.injEq, Prod.mk.injEq] at H
  obtain ⟨rfl, rfl⟩ := H
  go_enter Tryd.func41, Tryd.ntmps41
  go_wp2_with (first | ((with_reducible refine gate_dst (N := 2) rfl ?_); refine box_event ?hg (N := 2) ?hd (cs := #[.slice none 0 0]) (t := 44) ?hr ?_; (case hd => rfl); (case hg => rfl); (case hr => (go_simp; done)); intro gb340 hg w4 hbox hb; have BK340 := aM_ (hbox); have GW340 := aM_ ((by rw [hg]; exact (below_size HB.out) : w.heap.size ≤ gb340)); have GE340 := GW340; replace HB := aM_ (below_step HB.out hb); clear hb hbox hg) | ((with_reducible refine gate_callee (f := 54) rfl ?_); refine goesL_ (some 6) rfl rfl Tryd.func54 (by kernel_rfl) rfl #[.slice A0 l0.length c0] rfl (by (try simp only [sD_, sE_, sF_]); rfl) ?_; (with_reducible refine (impl_set.calls _ _ l0 t341 _ ?side1 ?side2 A2.out).mono ?_); (case side1 => repeat (first | exact (Kd.C_below HR0.out HB.out) | (with_reducible refine Kd.C_alloc ?_ _) | (with_reducible refine Kd.C_drewN ?_ _) | (with_reducible refine Kd.C_drew ?_))); (case side2 => exact HC0.out); rintro e w5 ⟨v342, rfl, ho0, hb⟩; refine ⟨_, rfl, ?_⟩; have HO343 := aM_ (Kd.R_lower ho0 (below_size HB.out)); replace BK340 := aM_ (blk_below BK340.out hb); replace HB := aM_ (below_step HB.out hb); (try clear hb); (try clear hb2); (try clear hk); (try clear hi); (try clear ho0); obtain ⟨Ao6, co6, eo6⟩ := Kd.R_slice HO343.out; subst eo6; have hcz7_0 : w5.cell? ⟨gb340, 0, none⟩ = some (.slice none 0 0) := (blk_cell BK340.out 0).trans rfl; have hfz7_0 := blk_frozen BK340.out 0))
  refine bodyPost_ret (results_ct rfl _ _ gb340 44 #[.slice none 0 0] (0, 0) _ rfl (by refine blk_put (cs := #[.slice none 0 0]) ?_ 0 _ rfl; exact BK340.out) Tryd.underlying44 rfl (by kernel_rfl)) rfl ?_
  exact ⟨_, by rfl, by exact Kd.R_nil _ _ _ _ _, by repeat (first | (with_reducible first | exact HB.out | apply below_alloc | apply pw_below_drewN | apply below_drew1 | refine below_set ?_ GE340.out) | exact HB.out)⟩
 ·
  rw [if_neg c3] at H
  have c3b0 := decide_eq_false c3
  have c3b1 : decide (40 < t341.length) = false := decide_eq_false (by omega)
  clear c3
  replace H := Option.bind_eq_some_iff.mp H
  obtain ⟨t344, A80, H⟩ := H
  try dsimp only at H
  have A8 := aM_ A80
  clear A80
  simp only [Option.some.injEq, Prod.mk.injEq] at H
  obtain ⟨rfl, rfl⟩ := H
  go_enter Tryd.func41, Tryd.ntmps41
  go_wp2_with (first | ((with_reducible refine gate_dst (N := 2) rfl ?_); refine box_event ?hg (N := 2) ?hd (cs := #[.slice none 0 0]) (t := 44) ?hr ?_; (case hd => rfl); (case hg => rfl); (case hr => (go_simp; done)); intro gb340 hg w9 hbox hb; have BK340 := aM_ (hbox); have GW340 := aM_ ((by rw [hg]; exact (below_size HB.out) : w.heap.size ≤ gb340)); have GE340 := GW340; replace HB := aM_ (below_step HB.out hb); clear hb hbox hg) | ((with_reducible refine gate_callee (f := 54) rfl ?_); refine goesL_ (some 6) rfl rfl Tryd.func54 (by kernel_rfl) rfl #[.slice A0 l0.length c0] rfl (by (try simp only [sD_, sE_, sF_]); rfl) ?_; (with_reducible refine (impl_set.calls _ _ l0 t341 _ ?side1 ?side2 A2.out).mono ?_); (case side1 => repeat (first | exact (Kd.C_below HR0.out HB.out) | (with_reducible refine Kd.C_alloc ?_ _) | (with_reducible refine Kd.C_drewN ?_ _) | (with_reducible refine Kd.C_drew ?_))); (case side2 => exact HC0.out); rintro e w10 ⟨v342, rfl, ho0, hb⟩; refine ⟨_, rfl, ?_⟩; have HO343 := aM_ (Kd.R_lower ho0 (below_size HB.out)); replace BK340 := aM_ (blk_below BK340.out hb); replace HB := aM_ (below_step HB.out hb); (try clear hb); (try clear hb2); (try clear hk); (try clear hi); (try clear ho0); obtain ⟨Ao11, co11, eo11⟩ := Kd.R_slice HO343.out; subst eo11) | ((with_reducible refine gate_callee (f := 55) rfl ?_); refine goesL_ (some 12) rfl rfl Tryd.func55 (by kernel_rfl) rfl #[.slice Ao11 t341.length co11] rfl (by (try simp only [sD_, sE_, sF_]); rfl) ?_; (with_reducible refine (impl_trieOf.calls k _ _ t341 t344 _ ?side1 ?side2 A8.out).mono ?_); (case side1 => repeat (first | exact (Kd.R_reads' HO343.out).2.2 | (with_reducible refine Kd.C_alloc ?_ _) | (with_reducible refine Kd.C_drewN ?_ _) | (with_reducible refine Kd.C_drew ?_))); (case side2 => exact (Kd.R_reads' HO343.out).2.1); rintro e w12 ⟨v345, rfl, ho0, hb⟩; refine ⟨_, rfl, ?_⟩; replace HO343 := aM_ (Kd.R_below HO343.out hb); have HO346 := aM_ (Kd.R_lower ho0 (below_size HB.out)); replace BK340 := aM_ (blk_below BK340.out hb); replace HB := aM_ (below_step HB.out hb); (try clear hb); (try clear hb2); (try clear hk); (try clear hi); (try clear ho0); obtain ⟨Ao13, co13, eo13⟩ := Kd.R_slice HO346.out; subst eo13; have hcz14_0 : w12.cell? ⟨gb340, 0, none⟩ = some (.slice none 0 0) := (blk_cell BK340.out 0).trans rfl; have hfz14_0 := blk_frozen BK340.out 0))
  refine bodyPost_ret (results_ct rfl _ _ gb340 44 #[.slice Ao13 t344.length co13] (0, 0) _ rfl (by refine blk_put (cs := #[.slice none 0 0]) ?_ 0 _ rfl; exact BK340.out) Tryd.underlying44 rfl (by kernel_rfl)) rfl ?_
  exact ⟨_, by rfl, by exact Kd.R_mono (Kd.R_far (p := ⟨gb340, 0, none⟩) (Kd.R_types HO346.out BK340.out (by decide)) (fun _ hk => hk.2) (.slice Ao13 t344.length co13)) (fun _ hk => trivial), by repeat (first | (with_reducible first | exact HB.out | apply below_alloc | apply pw_below_drewN | apply below_drew1 | refine below_set ?_ GE340.out) | exact HB.out)⟩
end Go.Proofs.YtfhffcefpnkllaaDoor.P
namespace Go.Proofs.YtfhffcefpnkllaaDoor.P
open Go.RowKit Go.Proofs.YtfhffcefpnkllaaDoorW.PrintWords Go.Proofs.YtfhffcefpnkllaaDoorW.PrintLast Go.Proofs.YtfhffcefpnkllaaDoorW.PrintMore
open List renaming setIfInBounds_toArray → sA_, set_cons_zero → sB_, set_cons_succ → sC_, map_toArray → sD_, map_cons → sE_, map_nil → sF_, length_drop → sG_, length_take → sH_
open Bool renaming true → ty, false → fy
open Aside0 renaming mk → aM_
attribute [local go_sem] max2_int min2_int max_two min_two max_three min_three max_four min_four
attribute [local go_sem high] eqA56
def impl_Branch.l0 : Nat → List (S56) → List (S56) → Int → Int → Option (Bool)
 | 0, _, _, _, _ => none
 | k + 1, x0, x1, x12, x13 => if x13 < x12 then (if 0 ≤ x13 then (if x13 < (x0.length : Int) then (if x13 < (x1.length : Int) then (if (!((((rd_T56 x0 x13).f0).toList) == (((rd_T56 x1 x13).f0).toList)) || (!(((rd_T56 x0 x13).f1) == ((rd_T56 x1 x13).f1)) || (!(((rd_T56 x0 x13).f2) == ((rd_T56 x1 x13).f2))))) = true then (some false) else (impl_Branch.l0 k x0 x1 x12 (wrap64 (x13 + 1)))) else (none)) else (none)) else (none)) else (some true)
def impl_Branch.f (k : Nat) (l0 : List (S56)) (l1 : List (S56)) : Option (Bool) := if (l0.length : Int) = (l1.length : Int) then (impl_Branch.l0 k l0 l1 (l0.length : Int) 0) else (some false)
theorem impl_Branch.mono_l : ∀ k, (∀ y0 y1 y2 y3, LeO (impl_Branch.l0 k y0 y1 y2 y3) (impl_Branch.l0 (k + 1) y0 y1 y2 y3))
 | 0 => fun _ _ _ _ r h => by simp [impl_Branch.l0] at h
 | k + 1 => by
  have ih0 := impl_Branch.mono_l k
  ·
   intro y0 y1 y2 y3
   unfold impl_Branch.l0
   repeat' first
   | (with_reducible exact ih0 _ _ _ _)
   | (with_reducible exact LeO.refl _)
   | (with_reducible exact LeO.none _)
   | (with_reducible refine LeO.ite ?_ ?_)
   | (with_reducible refine LeO.bind ?_ (fun _ => ?_))
   | exact ih0 _ _ _ _
   | exact LeO.none _
   | refine LeO.ite ?_ ?_
   | refine LeO.bind ?_ (fun _ => ?_)
theorem impl_Branch.mono : ∀ a0 a1 k, LeO (impl_Branch.f k a0 a1) (impl_Branch.f (k + 1) a0 a1) := by
 intro a0 a1 k
 have ih0 := impl_Branch.mono_l k
 unfold impl_Branch.f
 repeat' first
   | (with_reducible exact ih0 _ _ _ _)
   | (with_reducible exact LeO.refl _)
   | (with_reducible exact LeO.none _)
   | (with_reducible refine LeO.ite ?_ ?_)
   | (with_reducible refine LeO.bind ?_ (fun _ => ?_))
   | exact ih0 _ _ _ _
   | exact LeO.none _
   | refine LeO.ite ?_ ?_
   | refine LeO.bind ?_ (fun _ => ?_)
theorem impl_Branch.calls (k : Nat) (A0 : Option Addr) (c0 : Nat) (l0 : List (S56)) (A1 : Option Addr) (c1 : Nat) (l1 : List (S56)) (r : Bool) (w : World) (hr0 : Kd.C k56 w A0 l0.length l0) (hc0 : l0.length ≤ c0) (hr1 : Kd.C k56 w A1 l1.length l1) (hc1 : l1.length ≤ c1) (h : impl_Branch.f k l0 l1 = some r) :
  Calls Tryd.prog 42 #[.slice A0 l0.length c0, .slice A1 l1.length c1] w fun e w' => e = .returned (.bool r) ∧ Drawn0 w w' := by
 have hu56 := Tryd.underlying56
 have HR0 := aM_ hr0
 have HC0 := aM_ hc0
 clear hr0 hc0
 have HR1 := aM_ hr1
 have HC1 := aM_ hc1
 clear hr1 hc1
 have H : (if (l0.length : Int) = (l1.length : Int) then (impl_Branch.l0 k l0 l1 (l0.length : Int) 0) else (some false)) = some r := h
 clear h
 by_cases c3 : (l0.length : Int) = (l1.length : Int)
 ·
  rw [if_pos c3] at H
  have c3b0 : ((l0.length : Int) == (l1.length : Int)) = true := beq_iff_eq.mpr c3
  have c3b1 : ((l0.length : Int) != (l1.length : Int)) = false := bne_eq_false_iff_eq.mpr c3
  have c3b2 : (l0.length == l1.length) = true := by first | simpa using c3 | (simp at c3 ⊢; omega)
  clear c3
  have H' := aM_ H
  clear H
  go_enter Tryd.func42, Tryd.ntmps42
  go_wp2
  repeat (go_quiet (fail); try go_wp2)
  go_loopg [13] k (fun kq v13 w' => ∃ (x13_1 : Int), v13 = .int .i64 x13_1 ∧ Aside0 (impl_Branch.l0 kq l0 l1 (l0.length : Int) x13_1 = some r) ∧ Aside0 (kq ≤ k) ∧ Drawn0 w w')
  case atStart => exact ⟨(0), (by rfl), H', ⟨Nat.le_refl _⟩, by repeat (first | exact Drawn0.refl _ | apply Drawn0.step)⟩
  case round =>
   clear H'
   try clear c1
   try clear p2
   try clear c3
   try clear c3b0
   try clear c3b1
   try clear c3b2
   obtain ⟨x13_1, rfl, HA, HK1, ⟨m1, rfl⟩⟩ := hrel
   cases gk with
   | zero => exact absurd HA.out (by simp [impl_Branch.l0])
   | succ k1 =>
    have H := HA.out
    clear HA
    simp only [impl_Branch.l0] at H
    by_cases c4 : x13_1 < (l0.length : Int)
    ·
     rw [if_pos c4] at H
     have c4b0 := decide_eq_true c4
     clear c4
     by_cases c5 : 0 ≤ x13_1
     ·
      rw [if_pos c5] at H
      have c5b0 := decide_eq_true c5
      clear c5
      by_cases c6 : x13_1 < (l0.length : Int)
      ·
       rw [if_pos c6] at H
       have c6b0 := decide_eq_true c6
       clear c6
       by_cases c7 : x13_1 < (l1.length : Int)
       ·
        rw [if_pos c7] at H
        have c7b0 := decide_eq_true c7
        clear c7
        by_cases c8 : (!((((rd_T56 l0 x13_1).f0).toList) == (((rd_T56 l1 x13_1).f0).toList)) || (!(((rd_T56 l0 x13_1).f1) == ((rd_T56 l1 x13_1).f1)) || (!(((rd_T56 l0 x13_1).f2) == ((rd_T56 l1 x13_1).f2))))) = true
        ·
         rw [if_pos c8] at H
         have c8b0 : (!((((rd_T56 l0 x13_1).f0).toList) == (((rd_T56 l1 x13_1).f0).toList)) || (!(((rd_T56 l0 x13_1).f1) == ((rd_T56 l1 x13_1).f1)) || (!(((rd_T56 l0 x13_1).f2) == ((rd_T56 l1 x13_1).f2))))) = true := c8
         clear c8
         obtain rfl := Option.some.inj H
         have p347 : 0 ≤ (x13_1 : Int) := of_decide_eq_true (by (with_reducible assumption))
         have q347 : x13_1 < (l0.length : Int) := of_decide_eq_true (by (with_reducible assumption))
         obtain ⟨ad347, e347, hx347_0, hx347_1, hx347_2⟩ := at_T56 HR0.out x13_1 p347 q347
         cases e347
         replace p347 := eq_true p347
         replace q347 := eq_true q347
         have p348 : 0 ≤ (x13_1 : Int) := of_decide_eq_true (by (with_reducible assumption))
         have q348 : x13_1 < (l1.length : Int) := of_decide_eq_true (by (with_reducible assumption))
         obtain ⟨ad348, e348, hx348_0, hx348_1, hx348_2⟩ := at_T56 HR1.out x13_1 p348 q348
         cases e348
         replace p348 := eq_true p348
         replace q348 := eq_true q348
         go_wp2
         repeat (go_quiet (fail); try go_wp2)
         go_ret
         exact ⟨by rfl, by repeat (first | exact Drawn0.refl _ | apply Drawn0.step)⟩
        ·
         rw [if_neg c8] at H
         have c8b0 : (!((((rd_T56 l0 x13_1).f0).toList) == (((rd_T56 l1 x13_1).f0).toList)) || (!(((rd_T56 l0 x13_1).f1) == ((rd_T56 l1 x13_1).f1)) || (!(((rd_T56 l0 x13_1).f2) == ((rd_T56 l1 x13_1).f2))))) = false := by simpa using c8
         clear c8
         have H' := aM_ H
         clear H
         have p347 : 0 ≤ (x13_1 : Int) := of_decide_eq_true (by (with_reducible assumption))
         have q347 : x13_1 < (l0.length : Int) := of_decide_eq_true (by (with_reducible assumption))
         obtain ⟨ad347, e347, hx347_0, hx347_1, hx347_2⟩ := at_T56 HR0.out x13_1 p347 q347
         cases e347
         replace p347 := eq_true p347
         replace q347 := eq_true q347
         have p348 : 0 ≤ (x13_1 : Int) := of_decide_eq_true (by (with_reducible assumption))
         have q348 : x13_1 < (l1.length : Int) := of_decide_eq_true (by (with_reducible assumption))
         obtain ⟨ad348, e348, hx348_0, hx348_1, hx348_2⟩ := at_T56 HR1.out x13_1 p348 q348
         cases e348
         replace p348 := eq_true p348
         replace q348 := eq_true q348
         go_wp2
         repeat (go_quiet (fail); try go_wp2)
         go_roundg k1
         case measure => have := HK1.out; omega
         case rel => exact ⟨(wrap64 (x13_1 + 1)), (by rfl), H', ⟨by have := HK1.out; omega⟩, by repeat (first | exact Drawn0.refl _ | apply Drawn0.step)⟩
       ·
        rw [if_neg c7] at H
        exact absurd H (by simp)
      ·
       rw [if_neg c6] at H
       exact absurd H (by simp)
     ·
      rw [if_neg c5] at H
      exact absurd H (by simp)
    ·
     rw [if_neg c4] at H
     have c4b0 := decide_eq_false c4
     clear c4
     obtain rfl := Option.some.inj H
     go_wp2
     repeat (go_quiet (fail); try go_wp2)
     go_ret
     exact ⟨by rfl, by repeat (first | exact Drawn0.refl _ | apply Drawn0.step)⟩
 ·
  rw [if_neg c3] at H
  have c3b0 : ((l0.length : Int) == (l1.length : Int)) = false := beq_eq_false_iff_ne.mpr c3
  have c3b1 : ((l0.length : Int) != (l1.length : Int)) = true := bne_iff_ne.mpr c3
  have c3b2 : (l0.length == l1.length) = false := by first | simpa using c3 | (simp at c3 ⊢; omega)
  obtain rfl := Option.some.inj H
  go_enter Tryd.func42, Tryd.ntmps42
  go_wp2
  repeat (go_quiet (fail); try go_wp2)
  go_ret
  exact ⟨by rfl, by repeat (first | exact Drawn0.refl _ | apply Drawn0.step)⟩
end Go.Proofs.YtfhffcefpnkllaaDoor.P
namespace Go.Proofs.YtfhffcefpnkllaaDoor.P
open Go.RowKit Go.Proofs.YtfhffcefpnkllaaDoorW.PrintWords Go.Proofs.YtfhffcefpnkllaaDoorW.PrintLast Go.Proofs.YtfhffcefpnkllaaDoorW.PrintMore
open List renaming setIfInBounds_toArray → sA_, set_cons_zero → sB_, set_cons_succ → sC_, map_toArray → sD_, map_cons → sE_, map_nil → sF_, length_drop → sG_, length_take → sH_
open Bool renaming true → ty, false → fy
open Aside0 renaming mk → aM_
attribute [local go_sem] max2_int min2_int max_two min_two max_three min_three max_four min_four
def impl_letter.f (a0 : Int) : Option (ByteArray) := some (strOfNums (([(wrap64 (97 + a0)) % 256] : List Int)))
theorem impl_letter.calls (a0 : Int) (r : ByteArray) (w : World) (h : impl_letter.f a0 = some r) :
  Calls Tryd.prog 66 #[.int .i64 a0] w fun e w' => e = .returned (.string r) ∧ Below w.heap.size w w' := by
 have HB := aM_ (Below.refl w.heap.size w)
 have H : (some (strOfNums (([(wrap64 (97 + a0)) % 256] : List Int)))) = some r := h
 clear h
 obtain ⟨y349, hy349⟩ : ∃ y_ : List Int, y_ = (([(wrap64 (97 + a0)) % 256] : List Int)) := ⟨_, rfl⟩
 replace H : (some (strOfNums y349)) = some r := by first | (rw [hy349]; with_reducible exact H) | (have H2_ := (Option.bind_some _ _).symm.trans H; rw [hy349]; with_reducible exact H2_) | (have H2_ := (Option.bind_some _ _).symm.trans H; with_reducible exact H2_) | with_reducible exact H | (rw [hy349]; exact H) | exact H
 have Ny349 := aM_ hy349
 clear hy349
 obtain rfl := Option.some.inj H
 go_enter Tryd.func66, Tryd.ntmps66
 go_wp2_with (first | ((with_reducible refine gate_dst (N := 6) rfl ?_); refine Kd.R_lit (Kd.int .u8) _ 5 ?hg (N := 6) ?hd (xs := ([(wrap64 (97 + a0)) % 256] : List Int)) (inner := [.int .u8 ((wrap64 (97 + a0)) % 256)]) (ok := fun _ => True) (okp := fun _ => True) ?hr ?hp (fun _ hk => hk) trivial (Below.refl _ _) (Nat.le_refl _) (by simp) ?_; (case hd => rfl); (case hg => rfl); (case hr => (go_simp; done)); (case hp => exact (Reps.one (show Kd.M (Kd.int .u8) _ _ _ ((wrap64 (97 + a0)) % 256) [.int .u8 ((wrap64 (97 + a0)) % 256)] from rfl) (Reps.none _ _))); intro v350 w2 ho3 hb hg_ hnew_; clear hg_ hnew_; (rw [← Ny349.out] at ho3); have HO351 := aM_ (Kd.R_lower ho3 (below_size HB.out)); replace HB := aM_ (below_step HB.out hb); clear hb ho3; have hcv4 := own_string (P := Tryd.prog) Tryd.underlying83 Tryd.underlying5 Tryd.underlying9 (Kd.own_of_R HO351.out)))
 go_ret
 exact ⟨by rfl, by exact HB.out⟩
def impl_Trie_prefixes.l0 : Nat → List ByteArray → List (S73) → Int → Int → Option (List ByteArray × Bool)
 | 0, _, _, _, _ => none
 | k + 1, x4, x15, x16, x17 => if x17 < x16 then (if 0 ≤ x17 then (if x17 < (x15.length : Int) then ((impl_in.f ((rd_T73 x15 x17).f1) 0 x17).bind fun t363 => (if t363 = true then ((impl_in.f ((rd_T73 x15 x17).f0) 0 25).bind fun t364 => (if t364 = true then (if 0 ≤ ((rd_T73 x15 x17).f1) then (if ((rd_T73 x15 x17).f1) < (x4.length : Int) then ((impl_letter.f ((rd_T73 x15 x17).f0)).bind fun t366 => (if (rdOf ByteArray.empty x4 ((rd_T73 x15 x17).f1)).size + t366.size ≤ 9223372036854775807 then (if x4.length < 8796093022208 then (impl_Trie_prefixes.l0 k (x4 ++ [(rdOf ByteArray.empty x4 ((rd_T73 x15 x17).f1)) ++ t366]) x15 x16 (wrap64 (x17 + 1))) else (none)) else (none))) else (none)) else (none)) else (some (([] : List ByteArray), false)))) else (some (([] : List ByteArray), false)))) else (none)) else (none)) else (some (x4, true))
def impl_Trie_prefixes.f (k : Nat) (l0_0 : List (S73)) : Option (List ByteArray × Bool) := (impl_in.f (l0_0.length : Int) 1 481).bind fun t356 => (if t356 = true then (if 1 ≤ (l0_0.length : Int) then ((some (l0_0.drop 1 : List (S73))).bind fun y357 => (impl_Trie_prefixes.l0 k (([(⟨#[]⟩ : ByteArray)] : List ByteArray)) y357 (y357.length : Int) 0)) else (none)) else (some (([] : List ByteArray), false)))
theorem impl_Trie_prefixes.mono_l : ∀ k, (∀ y0 y1 y2 y3, LeO (impl_Trie_prefixes.l0 k y0 y1 y2 y3) (impl_Trie_prefixes.l0 (k + 1) y0 y1 y2 y3))
 | 0 => fun _ _ _ _ r h => by simp [impl_Trie_prefixes.l0] at h
 | k + 1 => by
  have ih0 := impl_Trie_prefixes.mono_l k
  ·
   intro y0 y1 y2 y3
   unfold impl_Trie_prefixes.l0
   repeat' first
   | (with_reducible exact ih0 _ _ _ _)
   | (with_reducible exact LeO.refl _)
   | (with_reducible exact LeO.none _)
   | (with_reducible refine LeO.ite ?_ ?_)
   | (with_reducible refine LeO.bind ?_ (fun _ => ?_))
   | exact ih0 _ _ _ _
   | exact LeO.none _
   | refine LeO.ite ?_ ?_
   | refine LeO.bind ?_ (fun _ => ?_)
theorem impl_Trie_prefixes.mono : ∀ a0 k, LeO (impl_Trie_prefixes.f k a0) (impl_Trie_prefixes.f (k + 1) a0) := by
 intro a0 k
 have ih0 := impl_Trie_prefixes.mono_l k
 unfold impl_Trie_prefixes.f
 repeat' first
   | (with_reducible exact ih0 _ _ _ _)
   | (with_reducible exact LeO.refl _)
   | (with_reducible exact LeO.none _)
   | (with_reducible refine LeO.ite ?_ ?_)
   | (with_reducible refine LeO.bind ?_ (fun _ => ?_))
   | exact ih0 _ _ _ _
   | exact LeO.none _
   | refine LeO.ite ?_ ?_
   | refine LeO.bind ?_ (fun _ => ?_)
def impl_Trie_prefixes.T9 : Bool × List (List Nat × List Nat) := (true, [([], []), ([], []), ([], []), ([2], [2]), ([1, 3], [1, 3]), ([4], [4]), ([], []), ([6], [6]), ([7], [7]), ([5, 8], [5, 8]), ([9], [9]), ([0, 10, 8], [0, 10]), ([11, 11, 0, 1, 2, 3, 4, 5, 6, 7, 8, 9, 10, 11], [0, 1, 11])])
def impl_Trie_prefixes.B9 : List Nat := [0, 0, 0, 4, 14, 30, 0, 64, 192, 510, 1022, 2047, 4095]
theorem impl_Trie_prefixes.tab9 : rtab .any (opsOf Tryd.f56 9) = impl_Trie_prefixes.T9 := by kernel_rfl
theorem impl_Trie_prefixes.bits9 : waitsOk impl_Trie_prefixes.T9.2 impl_Trie_prefixes.B9 = true := by kernel_rfl
theorem impl_Trie_prefixes.calls (k : Nat) (A0_0 : Option Addr) (c0_0 : Nat) (l0_0 : List (S73)) (r1 : List ByteArray) (r2 : Bool) (w : World) (hr0_0 : Kd.C k73 w A0_0 l0_0.length l0_0) (hc0_0 : l0_0.length ≤ c0_0) (h : impl_Trie_prefixes.f k l0_0 = some (r1, r2)) :
  Calls Tryd.prog 56 #[.agg #[.slice A0_0 l0_0.length c0_0]] w fun e w' => ∃ v0_ : Value, e = .returned (.tuple #[v0_, .bool r2]) ∧ Kd.R Kd.string 9 w' w.heap.size (fun _ => True) v0_ r1 ∧ Below w.heap.size w w' := by
 have hu44 := Tryd.underlying44
 have hu73 := Tryd.underlying73
 have HR0_0 := aM_ hr0_0
 have HC0_0 := aM_ hc0_0
 clear hr0_0 hc0_0
 have HB := aM_ (Below.refl w.heap.size w)
 have H : ((impl_in.f (l0_0.length : Int) 1 481).bind fun t356 => (if t356 = true then (if 1 ≤ (l0_0.length : Int) then ((some (l0_0.drop 1 : List (S73))).bind fun y357 => (impl_Trie_prefixes.l0 k (([(⟨#[]⟩ : ByteArray)] : List ByteArray)) y357 (y357.length : Int) 0)) else (none)) else (some (([] : List ByteArray), false)))) = some (r1, r2) := h
 clear h
 obtain ⟨y353, hy353⟩ : ∃ y_ : List ByteArray, y_ = (([(⟨#[]⟩ : ByteArray)] : List ByteArray)) := ⟨_, rfl⟩
 replace H : ((impl_in.f (l0_0.length : Int) 1 481).bind fun t356 => (if t356 = true then (if 1 ≤ (l0_0.length : Int) then ((some (l0_0.drop 1 : List (S73))).bind fun y357 => (impl_Trie_prefixes.l0 k y353 y357 (y357.length : Int) 0)) else (none)) else (some (([] : List ByteArray), false)))) = some (r1, r2) := by first | (rw [hy353]; with_reducible exact H) | (have H2_ := (Option.bind_some _ _).symm.trans H; rw [hy353]; with_reducible exact H2_) | (have H2_ := (Option.bind_some _ _).symm.trans H; with_reducible exact H2_) | with_reducible exact H | (rw [hy353]; exact H) | exact H
 have Ny353 := aM_ hy353
 clear hy353
 replace H := Option.bind_eq_some_iff.mp H
 obtain ⟨t356, A20, H⟩ := H
 try dsimp only at H
 have A2 := aM_ A20
 clear A20
 by_cases c3 : t356 = true
 ·
  subst c3
  rw [if_pos rfl] at H
  by_cases c4 : 1 ≤ (l0_0.length : Int)
  rotate_left
  ·
   rw [if_neg c4] at H
   exact absurd H (by simp)
  rw [if_pos c4] at H
  have c4b0 := eq_true c4
  have c4b1 := decide_eq_true c4
  clear c4
  obtain ⟨y357, hy357⟩ : ∃ y_ : List (S73), y_ = (l0_0.drop 1) := ⟨_, rfl⟩
  replace H : (impl_Trie_prefixes.l0 k y353 y357 (y357.length : Int) 0) = some (r1, r2) := by first | (rw [hy357]; with_reducible exact H) | (have H2_ := (Option.bind_some _ _).symm.trans H; rw [hy357]; with_reducible exact H2_) | (have H2_ := (Option.bind_some _ _).symm.trans H; with_reducible exact H2_) | with_reducible exact H | (rw [hy357]; exact H) | exact H
  have Ny357 := aM_ hy357
  clear hy357
  have H' := aM_ H
  clear H
  go_enter Tryd.func56, Tryd.ntmps56
  go_wp2_with (first | ((with_reducible refine gate_dst (N := 1) rfl ?_); refine box_event ?hg (N := 1) ?hd (cs := #[.slice A0_0 l0_0.length c0_0]) (t := 44) ?hr ?_; (case hd => rfl); (case hg => rfl); (case hr => (go_simp; done)); intro gb352 hg w5 hbox hb; have BK352 := aM_ (hbox); have GW352 := aM_ ((by rw [hg]; exact (below_size HB.out) : w.heap.size ≤ gb352)); have GE352 := GW352; replace HB := aM_ (below_step HB.out hb); clear hb hbox hg) | ((with_reducible refine gate_dst (N := 7) rfl ?_); refine Kd.R_lit Kd.string _ 9 ?hg (N := 7) ?hd (xs := ([(⟨#[]⟩ : ByteArray)] : List ByteArray)) (inner := [.string (⟨#[]⟩ : ByteArray)]) (ok := fun _ => True) (okp := fun _ => True) ?hr ?hp (fun _ hk => hk) trivial (Below.refl _ _) (Nat.le_refl _) (by simp) ?_; (case hd => rfl); (case hg => rfl); (case hr => (go_simp; done)); (case hp => exact (Reps.one (show Kd.M Kd.string _ _ _ (⟨#[]⟩ : ByteArray) [.string (⟨#[]⟩ : ByteArray)] from rfl) (Reps.none _ _))); intro v354 w6 ho7 hb hg_ hnew_; clear hg_ hnew_; (rw [← Ny353.out] at ho7); have HO355 := aM_ (Kd.R_lower ho7 (below_size HB.out)); replace BK352 := aM_ (blk_below BK352.out hb); replace HB := aM_ (below_step HB.out hb); clear hb ho7; have hcz8_0 : w6.cell? ⟨gb352, 0, none⟩ = some (.slice A0_0 l0_0.length c0_0) := (blk_cell BK352.out 0).trans rfl; have hfz8_0 := blk_frozen BK352.out 0) | ((with_reducible refine gate_callee (f := 28) rfl ?_); refine goesL_ (some 11) rfl rfl Tryd.func28 (by kernel_rfl) rfl #[.int .i64 (l0_0.length : Int), .int .i64 1, .int .i64 481] rfl (by (try simp only [sD_, sE_, sF_]); rfl) ?_; (with_reducible refine (impl_in.calls (l0_0.length : Int) 1 481 true _ A2.out).mono ?_); rintro e w' ⟨rfl, ⟨nd, rfl⟩⟩; refine ⟨_, rfl, ?_⟩; have q9 : (1 : Int) ≤ ((l0_0.length : Int) : Int) := of_decide_eq_true (by (with_reducible assumption)); obtain ⟨i09, hi09, _, hsz9, _⟩ := info_parts info73; have hroom9 : l0_0.length ≤ c0_0 := HC0_0.out; have hC9 : Kd.C k73 _ A0_0 l0_0.length l0_0 := HR0_0.out; have hcut9 := cut_from (P := Tryd.prog) 42 73 .i64 Tryd.underlying42 hi09 3 hsz9 A0_0 l0_0.length c0_0 1 (by omega) q9; have hr9 := Kd.C_drop (m := (1 : Int).toNat) (c := c0_0) hC9 (by omega) hroom9; obtain ⟨A9, hA9⟩ : ∃ A1, A1 = (if c0_0 = (1 : Int).toNat then A0_0 else (A0_0 : Option Addr).map (·.add ((1 : Int).toNat * 3))) := ⟨_, rfl⟩; obtain ⟨c9, hc9⟩ : ∃ c1, c1 = c0_0 - (1 : Int).toNat := ⟨_, rfl⟩; have hy9 : y357.length = l0_0.length - (1 : Int).toNat := (by rw [Ny357.out, List.length_drop] <;> omega); rw [show (l0_0).drop (1 : Int).toNat = y357 from Ny357.out.symm] at hr9; replace hr9 : Kd.C k73 _ A9 y357.length y357 := (by rw [hA9]; exact hr9); rw [← hy9, ← hA9, ← hc9] at hcut9; have HR360 := aM_ hr9; have HC360 := aM_ (show y357.length ≤ c9 from by rw [hy9, hc9]; exact Nat.sub_le_sub_right hroom9 _); clear hr9 hC9 hroom9 hi09 hsz9 hc9; have KY9 := aM_ hy9; have KA9 := aM_ hA9; clear hy9 hA9; replace q9 := eq_true q9))
  go_loopg [4, 17] k (fun kq v4 v17 w' => ∃ (x4_1 : List ByteArray) (x17_1 : Int), v17 = .int .i64 x17_1 ∧ Aside0 (impl_Trie_prefixes.l0 kq x4_1 y357 (y357.length : Int) x17_1 = some (r1, r2)) ∧ Aside0 (kq ≤ k) ∧ Aside0 (Kd.R Kd.string 9 w' w.heap.size (fun _ => True) v4 x4_1) ∧ Aside0 (w'.heap[gb352]? = some (.cells #[(.slice A0_0 l0_0.length c0_0)] 44 (0, 0))) ∧ Aside0 (Below w.heap.size w w'))
  case atStart => exact ⟨(y353), (0), (by rfl), H', ⟨Nat.le_refl _⟩, ⟨by (with_reducible repeat (first | apply Kd.R_alloc | apply Kd.R_drewN | apply Kd.R_drew)); exact HO355.out⟩, ⟨by (with_reducible repeat (first | refine blk_drewN ?_ _ | refine blk_drew ?_ | refine blk_alloc ?_ _)); exact BK352.out⟩, ⟨by repeat (first | (with_reducible first | exact HB.out | apply below_alloc | apply pw_below_drewN | apply below_drew1 | refine below_set ?_ GE352.out) | exact HB.out)⟩⟩
  case round =>
   clear H'
   try clear c1
   try clear c2
   try clear p2
   try clear c3
   try clear c4
   try clear c4b0
   try clear c4b1
   try clear c5
   try clear c9
   try clear q9
   try clear hcz8_0
   try clear hfz8_0
   try clear q9
   obtain ⟨x4_1, x17_1, rfl, HA, HK1, HO_4, BK352, HB⟩ := hrel
   cases gk with
   | zero => exact absurd HA.out (by simp [impl_Trie_prefixes.l0])
   | succ k1 =>
    have H := HA.out
    clear HA
    simp only [impl_Trie_prefixes.l0] at H
    by_cases c10 : x17_1 < (y357.length : Int)
    ·
     rw [if_pos c10] at H
     have c10b0 := decide_eq_true c10
     clear c10
     by_cases c11 : 0 ≤ x17_1
     ·
      rw [if_pos c11] at H
      have c11b0 := decide_eq_true c11
      clear c11
      by_cases c12 : x17_1 < (y357.length : Int)
      ·
       rw [if_pos c12] at H
       have c12b0 := decide_eq_true c12
       clear c12
       replace H := Option.bind_eq_some_iff.mp H
       obtain ⟨t363, A130, H⟩ := H
       try dsimp only at H
       have A13 := aM_ A130
       clear A130
       by_cases c14 : t363 = true
       ·
        subst c14
        rw [if_pos rfl] at H
        replace H := Option.bind_eq_some_iff.mp H
        obtain ⟨t364, A150, H⟩ := H
        try dsimp only at H
        have A15 := aM_ A150
        clear A150
        by_cases c16 : t364 = true
        ·
         subst c16
         rw [if_pos rfl] at H
         by_cases c17 : 0 ≤ ((rd_T73 y357 x17_1).f1)
         ·
          rw [if_pos c17] at H
          have c17b0 := decide_eq_true c17
          clear c17
          by_cases c18 : ((rd_T73 y357 x17_1).f1) < (x4_1.length : Int)
          ·
           rw [if_pos c18] at H
           have c18b0 := decide_eq_true c18
           clear c18
           replace H := Option.bind_eq_some_iff.mp H
           obtain ⟨t366, A190, H⟩ := H
           try dsimp only at H
           have A19 := aM_ A190
           clear A190
           by_cases c20 : (rdOf ByteArray.empty x4_1 ((rd_T73 y357 x17_1).f1)).size + t366.size ≤ 9223372036854775807
           ·
            rw [if_pos c20] at H
            have c20b0 := eq_true c20
            have c20b1 := decide_eq_true c20
            try have c20b2 : (9223372036854775807 < (rdOf ByteArray.empty x4_1 ((rd_T73 y357 x17_1).f1)).size + t366.size) = False := eq_false (Nat.not_lt.2 c20)
            by_cases c21 : x4_1.length < 8796093022208
            ·
             rw [if_pos c21] at H
             have LMc21 := aM_ c21
             clear c21
             obtain ⟨y367, hy367⟩ : ∃ y_ : List ByteArray, y_ = (x4_1 ++ [(rdOf ByteArray.empty x4_1 ((rd_T73 y357 x17_1).f1)) ++ t366]) := ⟨_, rfl⟩
             replace H : (impl_Trie_prefixes.l0 k1 y367 y357 (y357.length : Int) (wrap64 (x17_1 + 1))) = some (r1, r2) := by first | (rw [hy367]; with_reducible exact H) | (have H2_ := (Option.bind_some _ _).symm.trans H; rw [hy367]; with_reducible exact H2_) | (have H2_ := (Option.bind_some _ _).symm.trans H; with_reducible exact H2_) | with_reducible exact H | (rw [hy367]; exact H) | exact H
             have Ny367 := aM_ hy367
             clear hy367
             have H' := aM_ H
             clear H
             have p361 : 0 ≤ (x17_1 : Int) := of_decide_eq_true (by (with_reducible assumption))
             have q361 : x17_1 < (y357.length : Int) := of_decide_eq_true (by (with_reducible assumption))
             obtain ⟨ad361, e361, hx361_0, hx361_1, hx361_2⟩ := at_T73 HR360.out x17_1 p361 q361
             cases e361
             replace hx361_0 := (HB.out.cell (World.block_lt_of_cell? w _ hx361_0)).trans hx361_0
             replace hx361_1 := (HB.out.cell (World.block_lt_of_cell? w _ hx361_1)).trans hx361_1
             replace hx361_2 := (HB.out.cell (World.block_lt_of_cell? w _ hx361_2)).trans hx361_2
             replace p361 := eq_true p361
             replace q361 := eq_true q361
             try go_wp2_with (first | ((with_reducible refine gate_dst (N := 6) rfl ?_); refine box_event ?hg (N := 6) ?hd (cs := #[.int .i64 0, .int .i64 0, .bool false]) (t := 73) ?hr ?_; (case hd => rfl); (case hg => rfl); (case hr => (go_simp; done)); intro gb362 hg w22 hbox hb; replace HO_4 := aM_ (Kd.R_below HO_4.out hb); have BK362 := aM_ (hbox); have GW362 := aM_ ((by rw [hg]; exact (below_size HB.out) : w.heap.size ≤ gb362)); have GE362 := GW362; replace HB := aM_ (below_step HB.out hb); have NB352_362 := aM_ ((by rw [hg]; exact Nat.ne_of_lt (blk_lt BK352.out) : gb352 ≠ gb362)); have NB362_352 := aM_ NB352_362.out.symm; replace BK352 := aM_ (blk_below BK352.out hb); clear hb hbox hg; have hnb23 := NB362_352.out; have hnc23 := NB352_362.out; have hcz24_0 : w22.cell? ⟨gb362, 0, none⟩ = some (.int .i64 0) := (blk_cell BK362.out 0).trans rfl; have hcz24_1 : w22.cell? ⟨gb362, 1, none⟩ = some (.int .i64 0) := (blk_cell BK362.out 1).trans rfl; have hcz24_2 : w22.cell? ⟨gb362, 2, none⟩ = some (.bool false) := (blk_cell BK362.out 2).trans rfl; have hfz24_0 := blk_frozen BK362.out 0; have hfz24_1 := blk_frozen BK362.out 1; have hfz24_2 := blk_frozen BK362.out 2) | ((with_reducible refine gate_callee (f := 28) rfl ?_); refine goesL_ (some 25) rfl rfl Tryd.func28 (by kernel_rfl) rfl #[.int .i64 ((rd_T73 y357 x17_1).f1), .int .i64 0, .int .i64 x17_1] rfl (by (try simp only [sD_, sE_, sF_]); rfl) ?_; (with_reducible refine (impl_in.calls ((rd_T73 y357 x17_1).f1) 0 x17_1 true _ A13.out).mono ?_); rintro e w' ⟨rfl, ⟨nd, rfl⟩⟩; refine ⟨_, rfl, ?_⟩) | (go_at_call 28; (with_reducible refine (impl_in.calls ((rd_T73 y357 x17_1).f0) 0 25 true _ A15.out).mono ?_); rintro e w' ⟨rfl, ⟨nd, rfl⟩⟩))
             have n0_ : Aside0 (Kd.R Kd.string 9 (((w22.setCell ⟨gb362, 0, none⟩ (.int .i64 ((rd_T73 y357 x17_1).f0))).setCell ⟨gb362, 1, none⟩ (.int .i64 ((rd_T73 y357 x17_1).f1))).setCell ⟨gb362, 2, none⟩ (.bool ((rd_T73 y357 x17_1).f2))) w.heap.size (fun _ => True) u4 x4_1) := ⟨by exact Kd.R_mono (Kd.R_far (p := ⟨gb362, 2, none⟩) (Kd.R_far (p := ⟨gb362, 1, none⟩) (Kd.R_far (p := ⟨gb362, 0, none⟩) (Kd.R_types HO_4.out BK362.out (by decide)) (fun _ hk => hk.2) (.int .i64 ((rd_T73 y357 x17_1).f0))) (fun _ hk => hk.2) (.int .i64 ((rd_T73 y357 x17_1).f1))) (fun _ hk => hk.2) (.bool ((rd_T73 y357 x17_1).f2))) (fun _ hk => trivial)⟩
             have n1_ : Aside0 ((((w22.setCell ⟨gb362, 0, none⟩ (.int .i64 ((rd_T73 y357 x17_1).f0))).setCell ⟨gb362, 1, none⟩ (.int .i64 ((rd_T73 y357 x17_1).f1))).setCell ⟨gb362, 2, none⟩ (.bool ((rd_T73 y357 x17_1).f2))).heap[gb352]? = some (.cells #[.slice A0_0 l0_0.length c0_0] 44 (0, 0))) := ⟨by refine blk_far ?_ NB352_362.out _; refine blk_far ?_ NB352_362.out _; refine blk_far ?_ NB352_362.out _; exact BK352.out⟩
             have n2_ : Aside0 ((((w22.setCell ⟨gb362, 0, none⟩ (.int .i64 ((rd_T73 y357 x17_1).f0))).setCell ⟨gb362, 1, none⟩ (.int .i64 ((rd_T73 y357 x17_1).f1))).setCell ⟨gb362, 2, none⟩ (.bool ((rd_T73 y357 x17_1).f2))).heap[gb362]? = some (.cells #[.int .i64 ((rd_T73 y357 x17_1).f0), .int .i64 ((rd_T73 y357 x17_1).f1), .bool ((rd_T73 y357 x17_1).f2)] 73 (0, 0))) := ⟨by refine blk_put (cs := #[.int .i64 ((rd_T73 y357 x17_1).f0), .int .i64 ((rd_T73 y357 x17_1).f1), .bool false]) ?_ 2 _ rfl; refine blk_put (cs := #[.int .i64 ((rd_T73 y357 x17_1).f0), .int .i64 0, .bool false]) ?_ 1 _ rfl; refine blk_put (cs := #[.int .i64 0, .int .i64 0, .bool false]) ?_ 0 _ rfl; exact BK362.out⟩
             have n3_ : Aside0 (Below w.heap.size w (((w22.setCell ⟨gb362, 0, none⟩ (.int .i64 ((rd_T73 y357 x17_1).f0))).setCell ⟨gb362, 1, none⟩ (.int .i64 ((rd_T73 y357 x17_1).f1))).setCell ⟨gb362, 2, none⟩ (.bool ((rd_T73 y357 x17_1).f2)))) := ⟨by repeat (first | (with_reducible first | exact HB.out | apply below_alloc | apply pw_below_drewN | apply below_drew1 | refine below_set ?_ GE352.out | refine below_set ?_ GE362.out) | exact HB.out)⟩
             (try clear HO_4)
             (try clear BK352)
             (try clear BK362)
             (try clear HB)
             generalize (((w22.setCell ⟨gb362, 0, none⟩ (.int .i64 ((rd_T73 y357 x17_1).f0))).setCell ⟨gb362, 1, none⟩ (.int .i64 ((rd_T73 y357 x17_1).f1))).setCell ⟨gb362, 2, none⟩ (.bool ((rd_T73 y357 x17_1).f2))) = w25 at n0_ n1_ n2_ n3_ ⊢
             have HO_4 := n0_
             have BK352 := n1_
             have BK362 := n2_
             have HB := n3_
             clear n0_ n1_ n2_ n3_
             (try (rw [drewN_self w25]; generalize hq_ : World.drewN w25 _ = w25; have n0_ : Aside0 (Kd.R Kd.string 9 w25 w.heap.size (fun _ => True) u4 x4_1) := ⟨by rw [← hq_]; exact (by (with_reducible repeat (first | apply Kd.R_alloc | apply Kd.R_drewN | apply Kd.R_drew)); exact HO_4.out)⟩; have n1_ : Aside0 (w25.heap[gb352]? = some (.cells #[.slice A0_0 l0_0.length c0_0] 44 (0, 0))) := ⟨by rw [← hq_]; exact (by (with_reducible repeat (first | refine blk_drewN ?_ _ | refine blk_drew ?_ | refine blk_alloc ?_ _)); exact BK352.out)⟩; have n2_ : Aside0 (w25.heap[gb362]? = some (.cells #[.int .i64 ((rd_T73 y357 x17_1).f0), .int .i64 ((rd_T73 y357 x17_1).f1), .bool ((rd_T73 y357 x17_1).f2)] 73 (0, 0))) := ⟨by rw [← hq_]; exact (by (with_reducible repeat (first | refine blk_drewN ?_ _ | refine blk_drew ?_ | refine blk_alloc ?_ _)); exact BK362.out)⟩; have n3_ : Aside0 (Below w.heap.size w w25) := ⟨by rw [← hq_]; exact (by repeat (first | (with_reducible first | exact HB.out | apply below_alloc | apply pw_below_drewN | apply below_drew1 | refine below_set ?_ GE352.out | refine below_set ?_ GE362.out) | exact HB.out))⟩; clear HO_4 BK352 BK362 HB hq_; have HO_4 := n0_; have BK352 := n1_; have BK362 := n2_; have HB := n3_; clear n0_ n1_ n2_ n3_))
             have n0_ := aM_ (Kd.R_drew HO_4.out)
             have n1_ := aM_ (blk_drew BK352.out)
             have n2_ := aM_ (blk_drew BK362.out)
             have n3_ := aM_ (below_drew1 HB.out)
             clear HO_4
             clear BK352
             clear BK362
             clear HB
             have HO_4 := n0_
             have BK352 := n1_
             have BK362 := n2_
             have HB := n3_
             clear n0_ n1_ n2_ n3_
             obtain ⟨Ao27, co27, eo27⟩ := Kd.R_slice HO_4.out
             (subst eo27)
             have p365 : 0 ≤ (((rd_T73 y357 x17_1).f1) : Int) := of_decide_eq_true (by (with_reducible assumption))
             have q365 : ((rd_T73 y357 x17_1).f1) < (x4_1.length : Int) := of_decide_eq_true (by (with_reducible assumption))
             obtain ⟨ad365, e365, hx365_0⟩ := Kd.at_string (Kd.R_reads' HO_4.out).2.2 ((rd_T73 y357 x17_1).f1) p365 q365
             cases e365
             replace p365 := eq_true p365
             replace q365 := eq_true q365
             refine start_ (n := 13) (S := fun w' => w'.cell? ⟨gb362, 0, none⟩ = some (.int .i64 ((rd_T73 y357 x17_1).f0)) ∧ w'.cell? ⟨gb362, 1, none⟩ = some (.int .i64 ((rd_T73 y357 x17_1).f1)) ∧ w'.cell? ⟨gb362, 2, none⟩ = some (.bool ((rd_T73 y357 x17_1).f2)) ∧ w'.cell? (ad365.add (((rd_T73 y357 x17_1).f1)).toNat) = some (.string (rdOf ByteArray.empty x4_1 ((rd_T73 y357 x17_1).f1)))) (ds := [10, 11]) #[fy, fy, fy, fy, fy, fy, fy, fy, fy, fy, fy, fy, fy] (by kernel_rfl) rfl rfl ⟨(blk_cell BK362.out 0).trans rfl, (blk_cell BK362.out 1).trans rfl, (blk_cell BK362.out 2).trans rfl, hx365_0⟩ (fun hHeld => ?_); refine with_tabW impl_Trie_prefixes.tab9 impl_Trie_prefixes.bits9 (fun HT_ HW_ => ?_)
             generalize w25.drew = w26 at HO_4 BK352 BK362 HB hx365_0 hHeld ⊢
             refine pure_ (i := 0) (N := some 33) (v := ?_) (a' := ?_) #[ty, fy, fy, fy, fy, fy, fy, fy, fy, fy, fy, fy, fy] rfl rfl (any_of HT_.out (by kernel_rfl)) (fun _ _ _ h => h) (Or.inl ⟨by rfl, ?_⟩) ?_ ?_; rotate_left; (intro w'; go_simp; with_reducible rfl); rotate_left; (simp only [Act.put, sA_, sB_, sC_, i64_w, i32_w]; rfl)
             refine pure_ (i := 1) (N := some 34) (v := ?_) (a' := ?_) #[ty, ty, fy, fy, fy, fy, fy, fy, fy, fy, fy, fy, fy] rfl rfl (any_of HT_.out (by kernel_rfl)) (fun _ _ _ h => h) (Or.inl ⟨by rfl, ?_⟩) ?_ ?_; rotate_left; (intro w'; go_simp; with_reducible rfl); rotate_left; (simp only [Act.put, sA_, sB_, sC_, i64_w, i32_w]; rfl)
             refine pure_ (i := 2) (N := some 35) (v := ?_) (a' := ?_) #[ty, ty, ty, fy, fy, fy, fy, fy, fy, fy, fy, fy, fy] rfl rfl (any_of HT_.out (by kernel_rfl)) (fun _ _ _ h => h) (Or.inl ⟨by rfl, ?_⟩) ?_ ?_; rotate_left; (intro w'; go_simp; with_reducible rfl); rotate_left; (simp only [Act.put, sA_, sB_, sC_, i64_w, i32_w]; rfl)
             refine pure_ (i := 6) (N := some 39) (v := ?_) (a' := ?_) #[ty, ty, ty, fy, fy, fy, ty, fy, fy, fy, fy, fy, fy] rfl rfl (any_of HT_.out (by kernel_rfl)) (fun _ _ _ h => h) (Or.inl ⟨by rfl, ?_⟩) ?_ ?_; rotate_left; (intro w'; go_simp; with_reducible rfl); rotate_left; (simp only [Act.put, sA_, sB_, sC_, i64_w, i32_w]; rfl)
             refine take_ (i := 3) (N := some 36) (v := ?_) (a' := ?_) #[ty, ty, ty, ty, fy, fy, ty, fy, fy, fy, fy, fy, fy] rfl rfl (take_ofW HT_.out HW_.out (by kernel_rfl)) (fun _ _ _ h => h) (Or.inl ⟨by rfl, ?_⟩) hHeld ?_ ?_; rotate_left; (rintro w' ⟨s0, s1, s2, s3⟩; go_simp; with_reducible rfl); rotate_left; (simp only [Act.put, sA_, sB_, sC_, i64_w, i32_w]; rfl)
             refine pure_ (i := 4) (N := some 37) (v := ?_) (a' := ?_) #[ty, ty, ty, ty, ty, fy, ty, fy, fy, fy, fy, fy, fy] rfl rfl (any_of HT_.out (by kernel_rfl)) (fun _ _ _ h => h) (Or.inl ⟨by rfl, ?_⟩) ?_ ?_; rotate_left; (intro w'; go_simp; with_reducible rfl); rotate_left; (simp only [Act.put, sA_, sB_, sC_, i64_w, i32_w]; rfl)
             refine take_ (i := 5) (N := some 38) (v := ?_) (a' := ?_) #[ty, ty, ty, ty, ty, ty, ty, fy, fy, fy, fy, fy, fy] rfl rfl (take_ofW HT_.out HW_.out (by kernel_rfl)) (fun _ _ _ h => h) (Or.inl ⟨by rfl, ?_⟩) hHeld ?_ ?_; rotate_left; (rintro w' ⟨s0, s1, s2, s3⟩; go_simp; with_reducible rfl); rotate_left; (simp only [Act.put, sA_, sB_, sC_, i64_w, i32_w]; rfl)
             refine take_ (i := 7) (N := some 40) (v := ?_) (a' := ?_) #[ty, ty, ty, ty, ty, ty, ty, ty, fy, fy, fy, fy, fy] rfl rfl (take_ofW HT_.out HW_.out (by kernel_rfl)) (fun _ _ _ h => h) (Or.inl ⟨by rfl, ?_⟩) hHeld ?_ ?_; rotate_left; (rintro w' ⟨s0, s1, s2, s3⟩; go_simp; with_reducible rfl); rotate_left; (simp only [Act.put, sA_, sB_, sC_, i64_w, i32_w]; rfl)
             refine one_ (i := 8) (N := some 41) #[ty, ty, ty, ty, ty, ty, ty, ty, ty, fy, fy, fy, fy] rfl rfl (one_of HT_.out (by kernel_rfl)) (by decide) (fun K hK => ?_)
             refine goes_ Tryd.func66 (by kernel_rfl) rfl #[.int .i64 ((rd_T73 y357 x17_1).f0)] (by rfl) rfl rfl (by (try simp only [sD_, sE_, sF_]); rfl) ?_
             with_reducible refine (impl_letter.calls ((rd_T73 y357 x17_1).f0) t366 _ A19.out).mono ?_
             rintro e w28 ⟨rfl, hb⟩
             have HS3_ := (hb.cell (World.block_lt_of_cell? _ _ (hHeld.2.2.2))).trans (hHeld.2.2.2)
             refine ⟨_, rfl, ?_⟩
             have n0_ := aM_ (Kd.R_below HO_4.out hb)
             have n1_ := aM_ (blk_below BK352.out hb)
             have n2_ := aM_ (blk_below BK362.out hb)
             have n3_ := aM_ (below_step HB.out hb)
             clear HO_4
             clear BK352
             clear BK362
             clear HB
             have HO_4 := n0_
             have BK352 := n1_
             have BK362 := n2_
             have HB := n3_
             clear n0_ n1_ n2_ n3_
             (try clear hb)
             (try clear hb2)
             (try clear hk)
             (try clear hi)
             refine hK.out _ _ ⟨(blk_cell BK362.out 0).trans rfl, (blk_cell BK362.out 1).trans rfl, (blk_cell BK362.out 2).trans rfl, HS3_⟩ (fun hHeld => ?_)
             clear hK K
             refine norm_ (a' := ?_) ?_ ?_; rotate_left; (show Act.put _ (some 41) _ = _; simp only [Act.put, sA_, sB_, sC_, i64_w, i32_w]; rfl)
             refine pure_ (i := 9) (N := some 42) (v := ?_) (a' := ?_) #[ty, ty, ty, ty, ty, ty, ty, ty, ty, ty, fy, fy, fy] rfl rfl (any_of HT_.out (by kernel_rfl)) (fun _ _ _ h => h) (Or.inl ⟨by rfl, ?_⟩) ?_ ?_; rotate_left; (intro w'; go_simp; with_reducible rfl); rotate_left; (simp only [Act.put, sA_, sB_, sC_, i64_w, i32_w]; rfl)
             refine last_ (i := 10) (N := some 43) #[ty, ty, ty, ty, ty, ty, ty, ty, ty, ty, ty, fy, fy] rfl rfl (one_of HT_.out (by kernel_rfl)) (by decide) (fun K hK => ?_)
             refine value_ (w1 := ?_) (v := ?_) (by rfl) rfl ?_ ?_
             rotate_left 2
             ·
              go_simp
              constructor
              ·
               rfl
              ·
               rfl
             refine hK.out _ _ ?_
             clear hK K
             refine norm_ (a' := ?_) ?_ ?_; rotate_left; (show Act.put _ (some 43) _ = _; simp only [Act.put, sA_, sB_, sC_, i64_w, i32_w]; rfl)
             refine last_ (i := 11) (N := some 44) #[ty, ty, ty, ty, ty, ty, ty, ty, ty, ty, ty, ty, fy] rfl rfl (one_of HT_.out (by kernel_rfl)) (by decide) (fun K hK => ?_)
             refine Kd.R_append_step Kd.string (w0 := w) w.heap.size (by rfl) (.tmp 33) (.tmp 43) 52 9 (.string ⟨#[]⟩) 16 rfl Tryd.underlying52 info9 rfl (by decide) (by omega) (.slice (some ad365) x4_1.length co27) x4_1 ((rdOf ByteArray.empty x4_1 ((rd_T73 y357 x17_1).f1)) ++ t366) [.string ((rdOf ByteArray.empty x4_1 ((rd_T73 y357 x17_1).f1)) ++ t366)] (fun _ => True) (fun _ => False) rfl rfl ?aP (fun _ hk => hk.elim) ?aF ?aO ?aB ?aS ?aL ?_
             (case aP => exact rfl)
             (case aB => exact HB.out)
             (case aF => exact (fun _ _ => trivial))
             (case aO => exact HO_4.out)
             (case aS => exact (below_size HB.out))
             (case aL => have := LMc21.out; omega)
             intro v368 w29 ho hb hg hat
             rw [← Ny367.out] at ho
             have n0_ := aM_ (blk_grown (g := gb352) (o := .cells #[.slice A0_0 l0_0.length c0_0] 44 (0, 0)) BK352.out hg (Kd.R_ne HO_4.out BK352.out (by decide)))
             have n1_ := aM_ (blk_grown (g := gb362) (o := .cells #[.int .i64 ((rd_T73 y357 x17_1).f0), .int .i64 ((rd_T73 y357 x17_1).f1), .bool ((rd_T73 y357 x17_1).f2)] 73 (0, 0)) BK362.out hg (Kd.R_ne HO_4.out BK362.out (by decide)))
             have n2_ := aM_ (hb)
             have n3_ := aM_ (ho)
             clear BK352
             clear BK362
             clear HB
             clear HO_4
             have BK352 := n0_
             have BK362 := n1_
             have HB := n2_
             have HO369 := n3_
             clear n0_ n1_ n2_ n3_
             clear ho hb hg hat
             refine hK.out _ _ ?_
             clear hK K
             refine norm_ (a' := ?_) ?_ ?_; rotate_left; (show Act.put _ (some 44) _ = _; simp only [Act.put, sA_, sB_, sC_, i64_w, i32_w]; rfl)
             refine pure_ (i := 12) (N := some 4) (v := ?_) (a' := ?_) #[ty, ty, ty, ty, ty, ty, ty, ty, ty, ty, ty, ty, ty] rfl rfl (any_of HT_.out (by kernel_rfl)) (fun _ _ _ h => h) (Or.inl ⟨by rfl, ?_⟩) ?_ ?_; rotate_left; (intro w'; go_simp; with_reducible rfl); rotate_left; (simp only [Act.put, sA_, sB_, sC_, i64_w, i32_w]; rfl)
             refine done_ (done_of HT_.out (by kernel_rfl)) ?_
             try go_wp2
             go_roundg k1
             case measure => have := HK1.out; omega
             case rel => exact ⟨(y367), (wrap64 (x17_1 + 1)), (by rfl), H', ⟨by have := HK1.out; omega⟩, ⟨HO369.out⟩, ⟨BK352.out⟩, ⟨HB.out⟩⟩
            ·
             rw [if_neg c21] at H
             exact absurd H (by simp)
           ·
            rw [if_neg c20] at H
            exact absurd H (by simp)
          ·
           rw [if_neg c18] at H
           exact absurd H (by simp)
         ·
          rw [if_neg c17] at H
          exact absurd H (by simp)
        ·
         replace c16 := Bool.eq_false_iff.mpr c16
         subst c16
         have H1 : (some (([] : List ByteArray), false)) = some (r1, r2) := by rw [if_neg (show ¬ (false = true) by decide)] at H; exact H
         clear H
         have H := H1
         clear H1
         simp only [Option.some.injEq, Prod.mk.injEq] at H
         obtain ⟨rfl, rfl⟩ := H
         have p361 : 0 ≤ (x17_1 : Int) := of_decide_eq_true (by (with_reducible assumption))
         have q361 : x17_1 < (y357.length : Int) := of_decide_eq_true (by (with_reducible assumption))
         obtain ⟨ad361, e361, hx361_0, hx361_1, hx361_2⟩ := at_T73 HR360.out x17_1 p361 q361
         cases e361
         replace hx361_0 := (HB.out.cell (World.block_lt_of_cell? w _ hx361_0)).trans hx361_0
         replace hx361_1 := (HB.out.cell (World.block_lt_of_cell? w _ hx361_1)).trans hx361_1
         replace hx361_2 := (HB.out.cell (World.block_lt_of_cell? w _ hx361_2)).trans hx361_2
         replace p361 := eq_true p361
         replace q361 := eq_true q361
         go_wp2_with (first | ((with_reducible refine gate_dst (N := 6) rfl ?_); refine box_event ?hg (N := 6) ?hd (cs := #[.int .i64 0, .int .i64 0, .bool false]) (t := 73) ?hr ?_; (case hd => rfl); (case hg => rfl); (case hr => (go_simp; done)); intro gb362 hg w30 hbox hb; replace HO_4 := aM_ (Kd.R_below HO_4.out hb); have BK362 := aM_ (hbox); have GW362 := aM_ ((by rw [hg]; exact (below_size HB.out) : w.heap.size ≤ gb362)); have GE362 := GW362; replace HB := aM_ (below_step HB.out hb); have NB352_362 := aM_ ((by rw [hg]; exact Nat.ne_of_lt (blk_lt BK352.out) : gb352 ≠ gb362)); have NB362_352 := aM_ NB352_362.out.symm; replace BK352 := aM_ (blk_below BK352.out hb); clear hb hbox hg; have hnb31 := NB362_352.out; have hnc31 := NB352_362.out; have hcz32_0 : w30.cell? ⟨gb362, 0, none⟩ = some (.int .i64 0) := (blk_cell BK362.out 0).trans rfl; have hcz32_1 : w30.cell? ⟨gb362, 1, none⟩ = some (.int .i64 0) := (blk_cell BK362.out 1).trans rfl; have hcz32_2 : w30.cell? ⟨gb362, 2, none⟩ = some (.bool false) := (blk_cell BK362.out 2).trans rfl; have hfz32_0 := blk_frozen BK362.out 0; have hfz32_1 := blk_frozen BK362.out 1; have hfz32_2 := blk_frozen BK362.out 2) | ((with_reducible refine gate_callee (f := 28) rfl ?_); refine goesL_ (some 25) rfl rfl Tryd.func28 (by kernel_rfl) rfl #[.int .i64 ((rd_T73 y357 x17_1).f1), .int .i64 0, .int .i64 x17_1] rfl (by (try simp only [sD_, sE_, sF_]); rfl) ?_; (with_reducible refine (impl_in.calls ((rd_T73 y357 x17_1).f1) 0 x17_1 true _ A13.out).mono ?_); rintro e w' ⟨rfl, ⟨nd, rfl⟩⟩; refine ⟨_, rfl, ?_⟩) | (go_at_call 28; (with_reducible refine (impl_in.calls ((rd_T73 y357 x17_1).f0) 0 25 false _ A15.out).mono ?_); rintro e w' ⟨rfl, ⟨nd, rfl⟩⟩))
         go_ret2
         exact ⟨_, by rfl, by exact Kd.R_nil _ _ _ _ _, by repeat (first | (with_reducible first | exact HB.out | apply below_alloc | apply pw_below_drewN | apply below_drew1 | refine below_set ?_ GE352.out | refine below_set ?_ GE362.out) | exact HB.out)⟩
       ·
        replace c14 := Bool.eq_false_iff.mpr c14
        subst c14
        have H1 : (some (([] : List ByteArray), false)) = some (r1, r2) := by rw [if_neg (show ¬ (false = true) by decide)] at H; exact H
        clear H
        have H := H1
        clear H1
        simp only [Option.some.injEq, Prod.mk.injEq] at H
        obtain ⟨rfl, rfl⟩ := H
        have p361 : 0 ≤ (x17_1 : Int) := of_decide_eq_true (by (with_reducible assumption))
        have q361 : x17_1 < (y357.length : Int) := of_decide_eq_true (by (with_reducible assumption))
        obtain ⟨ad361, e361, hx361_0, hx361_1, hx361_2⟩ := at_T73 HR360.out x17_1 p361 q361
        cases e361
        replace hx361_0 := (HB.out.cell (World.block_lt_of_cell? w _ hx361_0)).trans hx361_0
        replace hx361_1 := (HB.out.cell (World.block_lt_of_cell? w _ hx361_1)).trans hx361_1
        replace hx361_2 := (HB.out.cell (World.block_lt_of_cell? w _ hx361_2)).trans hx361_2
        replace p361 := eq_true p361
        replace q361 := eq_true q361
        go_wp2_with (first | ((with_reducible refine gate_dst (N := 6) rfl ?_); refine box_event ?hg (N := 6) ?hd (cs := #[.int .i64 0, .int .i64 0, .bool false]) (t := 73) ?hr ?_; (case hd => rfl); (case hg => rfl); (case hr => (go_simp; done)); intro gb362 hg w33 hbox hb; replace HO_4 := aM_ (Kd.R_below HO_4.out hb); have BK362 := aM_ (hbox); have GW362 := aM_ ((by rw [hg]; exact (below_size HB.out) : w.heap.size ≤ gb362)); have GE362 := GW362; replace HB := aM_ (below_step HB.out hb); have NB352_362 := aM_ ((by rw [hg]; exact Nat.ne_of_lt (blk_lt BK352.out) : gb352 ≠ gb362)); have NB362_352 := aM_ NB352_362.out.symm; replace BK352 := aM_ (blk_below BK352.out hb); clear hb hbox hg; have hnb34 := NB362_352.out; have hnc34 := NB352_362.out; have hcz35_0 : w33.cell? ⟨gb362, 0, none⟩ = some (.int .i64 0) := (blk_cell BK362.out 0).trans rfl; have hcz35_1 : w33.cell? ⟨gb362, 1, none⟩ = some (.int .i64 0) := (blk_cell BK362.out 1).trans rfl; have hcz35_2 : w33.cell? ⟨gb362, 2, none⟩ = some (.bool false) := (blk_cell BK362.out 2).trans rfl; have hfz35_0 := blk_frozen BK362.out 0; have hfz35_1 := blk_frozen BK362.out 1; have hfz35_2 := blk_frozen BK362.out 2) | ((with_reducible refine gate_callee (f := 28) rfl ?_); refine goesL_ (some 25) rfl rfl Tryd.func28 (by kernel_rfl) rfl #[.int .i64 ((rd_T73 y357 x17_1).f1), .int .i64 0, .int .i64 x17_1] rfl (by (try simp only [sD_, sE_, sF_]); rfl) ?_; (with_reducible refine (impl_in.calls ((rd_T73 y357 x17_1).f1) 0 x17_1 false _ A13.out).mono ?_); rintro e w' ⟨rfl, ⟨nd, rfl⟩⟩; refine ⟨_, rfl, ?_⟩))
        go_ret2
        exact ⟨_, by rfl, by exact Kd.R_nil _ _ _ _ _, by repeat (first | (with_reducible first | exact HB.out | apply below_alloc | apply pw_below_drewN | apply below_drew1 | refine below_set ?_ GE352.out | refine below_set ?_ GE362.out) | exact HB.out)⟩
      ·
       rw [if_neg c12] at H
       exact absurd H (by simp)
     ·
      rw [if_neg c11] at H
      exact absurd H (by simp)
    ·
     rw [if_neg c10] at H
     have c10b0 := decide_eq_false c10
     clear c10
     simp only [Option.some.injEq, Prod.mk.injEq] at H
     obtain ⟨rfl, rfl⟩ := H
     go_wp2
     go_ret2
     exact ⟨_, by rfl, by exact HO_4.out, by exact HB.out⟩
 ·
  replace c3 := Bool.eq_false_iff.mpr c3
  subst c3
  have H1 : (some (([] : List ByteArray), false)) = some (r1, r2) := by rw [if_neg (show ¬ (false = true) by decide)] at H; exact H
  clear H
  have H := H1
  clear H1
  simp only [Option.some.injEq, Prod.mk.injEq] at H
  obtain ⟨rfl, rfl⟩ := H
  go_enter Tryd.func56, Tryd.ntmps56
  go_wp2_with (first | ((with_reducible refine gate_dst (N := 1) rfl ?_); refine box_event ?hg (N := 1) ?hd (cs := #[.slice A0_0 l0_0.length c0_0]) (t := 44) ?hr ?_; (case hd => rfl); (case hg => rfl); (case hr => (go_simp; done)); intro gb352 hg w36 hbox hb; have BK352 := aM_ (hbox); have GW352 := aM_ ((by rw [hg]; exact (below_size HB.out) : w.heap.size ≤ gb352)); have GE352 := GW352; replace HB := aM_ (below_step HB.out hb); clear hb hbox hg) | ((with_reducible refine gate_dst (N := 7) rfl ?_); refine Kd.R_lit Kd.string _ 9 ?hg (N := 7) ?hd (xs := ([(⟨#[]⟩ : ByteArray)] : List ByteArray)) (inner := [.string (⟨#[]⟩ : ByteArray)]) (ok := fun _ => True) (okp := fun _ => True) ?hr ?hp (fun _ hk => hk) trivial (Below.refl _ _) (Nat.le_refl _) (by simp) ?_; (case hd => rfl); (case hg => rfl); (case hr => (go_simp; done)); (case hp => exact (Reps.one (show Kd.M Kd.string _ _ _ (⟨#[]⟩ : ByteArray) [.string (⟨#[]⟩ : ByteArray)] from rfl) (Reps.none _ _))); intro v354 w37 ho38 hb hg_ hnew_; clear hg_ hnew_; (rw [← Ny353.out] at ho38); have HO355 := aM_ (Kd.R_lower ho38 (below_size HB.out)); replace BK352 := aM_ (blk_below BK352.out hb); replace HB := aM_ (below_step HB.out hb); clear hb ho38; have hcz39_0 : w37.cell? ⟨gb352, 0, none⟩ = some (.slice A0_0 l0_0.length c0_0) := (blk_cell BK352.out 0).trans rfl; have hfz39_0 := blk_frozen BK352.out 0) | ((with_reducible refine gate_callee (f := 28) rfl ?_); refine goesL_ (some 11) rfl rfl Tryd.func28 (by kernel_rfl) rfl #[.int .i64 (l0_0.length : Int), .int .i64 1, .int .i64 481] rfl (by (try simp only [sD_, sE_, sF_]); rfl) ?_; (with_reducible refine (impl_in.calls (l0_0.length : Int) 1 481 false _ A2.out).mono ?_); rintro e w' ⟨rfl, ⟨nd, rfl⟩⟩; refine ⟨_, rfl, ?_⟩))
  go_ret2
  exact ⟨_, by rfl, by exact Kd.R_nil _ _ _ _ _, by repeat (first | (with_reducible first | exact HB.out | apply below_alloc | apply pw_below_drewN | apply below_drew1 | refine below_set ?_ GE352.out) | exact HB.out)⟩
def impl_Trie_kids.l0 : Nat → Int → List Int → List (S73) → Int → Int → Option (List Int)
 | 0, _, _, _, _, _ => none
 | k + 1, x1, x5, x10, x11, x12 => if x12 < x11 then (if 0 ≤ x12 then (if x12 < (x10.length : Int) then (if ((rd_T73 x10 x12).f1) = x1 then (if x5.length < 17592186044416 then (impl_Trie_kids.l0 k x1 (x5 ++ [x12]) x10 x11 (wrap64 (x12 + 1))) else (none)) else (impl_Trie_kids.l0 k x1 x5 x10 x11 (wrap64 (x12 + 1)))) else (none)) else (none)) else (some x5)
def impl_Trie_kids.f (k : Nat) (l0_0 : List (S73)) (a1 : Int) : Option (List Int) := impl_Trie_kids.l0 k a1 (([] : List Int)) l0_0 (l0_0.length : Int) 0
theorem impl_Trie_kids.mono_l : ∀ k, (∀ y0 y1 y2 y3 y4, LeO (impl_Trie_kids.l0 k y0 y1 y2 y3 y4) (impl_Trie_kids.l0 (k + 1) y0 y1 y2 y3 y4))
 | 0 => fun _ _ _ _ _ r h => by simp [impl_Trie_kids.l0] at h
 | k + 1 => by
  have ih0 := impl_Trie_kids.mono_l k
  ·
   intro y0 y1 y2 y3 y4
   unfold impl_Trie_kids.l0
   repeat' first
   | (with_reducible exact ih0 _ _ _ _ _)
   | (with_reducible exact LeO.refl _)
   | (with_reducible exact LeO.none _)
   | (with_reducible refine LeO.ite ?_ ?_)
   | (with_reducible refine LeO.bind ?_ (fun _ => ?_))
   | exact ih0 _ _ _ _ _
   | exact LeO.none _
   | refine LeO.ite ?_ ?_
   | refine LeO.bind ?_ (fun _ => ?_)
theorem impl_Trie_kids.mono : ∀ a0 a1 k, LeO (impl_Trie_kids.f k a0 a1) (impl_Trie_kids.f (k + 1) a0 a1) := by
 intro a0 a1 k
 have ih0 := impl_Trie_kids.mono_l k
 unfold impl_Trie_kids.f
 repeat' first
   | (with_reducible exact ih0 _ _ _ _ _)
   | (with_reducible exact LeO.refl _)
   | (with_reducible exact LeO.none _)
   | (with_reducible refine LeO.ite ?_ ?_)
   | (with_reducible refine LeO.bind ?_ (fun _ => ?_))
   | exact ih0 _ _ _ _ _
   | exact LeO.none _
   | refine LeO.ite ?_ ?_
   | refine LeO.bind ?_ (fun _ => ?_)
theorem impl_Trie_kids.calls (k : Nat) (A0_0 : Option Addr) (c0_0 : Nat) (l0_0 : List (S73)) (a1 : Int) (r : List Int) (w : World) (hr0_0 : Kd.C k73 w A0_0 l0_0.length l0_0) (hc0_0 : l0_0.length ≤ c0_0) (h : impl_Trie_kids.f k l0_0 a1 = some r) :
  Calls Tryd.prog 67 #[.agg #[.slice A0_0 l0_0.length c0_0], .int .i64 a1] w fun e w' => ∃ v0_ : Value, e = .returned (v0_) ∧ Kd.R (Kd.int .i64) 3 w' w.heap.size (fun _ => True) v0_ r ∧ Below w.heap.size w w' := by
 have hu44 := Tryd.underlying44
 have hu73 := Tryd.underlying73
 have HR0_0 := aM_ hr0_0
 have HC0_0 := aM_ hc0_0
 clear hr0_0 hc0_0
 have HB := aM_ (Below.refl w.heap.size w)
 have H : (impl_Trie_kids.l0 k a1 (([] : List Int)) l0_0 (l0_0.length : Int) 0) = some r := h
 clear h
 obtain ⟨y371, hy371⟩ : ∃ y_ : List Int, y_ = (([] : List Int)) := ⟨_, rfl⟩
 replace H : (impl_Trie_kids.l0 k a1 y371 l0_0 (l0_0.length : Int) 0) = some r := by first | (rw [hy371]; with_reducible exact H) | (have H2_ := (Option.bind_some _ _).symm.trans H; rw [hy371]; with_reducible exact H2_) | (have H2_ := (Option.bind_some _ _).symm.trans H; with_reducible exact H2_) | with_reducible exact H | (rw [hy371]; exact H) | exact H
 have Ny371 := aM_ hy371
 clear hy371
 have H' := aM_ H
 clear H
 go_enter Tryd.func67, Tryd.ntmps67
 go_wp2_with (first | ((with_reducible refine gate_dst (N := 2) rfl ?_); refine box_event ?hg (N := 2) ?hd (cs := #[.slice A0_0 l0_0.length c0_0]) (t := 44) ?hr ?_; (case hd => rfl); (case hg => rfl); (case hr => (go_simp; done)); intro gb370 hg w3 hbox hb; have BK370 := aM_ (hbox); have GW370 := aM_ ((by rw [hg]; exact (below_size HB.out) : w.heap.size ≤ gb370)); have GE370 := GW370; replace HB := aM_ (below_step HB.out hb); clear hb hbox hg) | ((with_reducible refine gate_dst (N := 8) rfl ?_); refine Kd.R_lit (Kd.int .i64) _ 3 ?hg (N := 8) ?hd (xs := ([] : List Int)) (inner := []) (ok := fun _ => True) (okp := fun _ => True) ?hr ?hp (fun _ hk => hk) trivial (Below.refl _ _) (Nat.le_refl _) (by simp) ?_; (case hd => rfl); (case hg => rfl); (case hr => (go_simp; done)); (case hp => exact (Reps.none _ _)); intro v372 w4 ho5 hb hg_ hnew_; clear hg_ hnew_; (rw [← Ny371.out] at ho5); have HO373 := aM_ (Kd.R_lower ho5 (below_size HB.out)); replace BK370 := aM_ (blk_below BK370.out hb); replace HB := aM_ (below_step HB.out hb); clear hb ho5; have hcz6_0 : w4.cell? ⟨gb370, 0, none⟩ = some (.slice A0_0 l0_0.length c0_0) := (blk_cell BK370.out 0).trans rfl; have hfz6_0 := blk_frozen BK370.out 0))
 go_loopg [5, 12] k (fun kq v5 v12 w' => ∃ (x5_1 : List Int) (x12_1 : Int), v12 = .int .i64 x12_1 ∧ Aside0 (impl_Trie_kids.l0 kq a1 x5_1 l0_0 (l0_0.length : Int) x12_1 = some r) ∧ Aside0 (kq ≤ k) ∧ Aside0 (Kd.R (Kd.int .i64) 3 w' w.heap.size (fun _ => True) v5 x5_1) ∧ Aside0 (w'.heap[gb370]? = some (.cells #[(.slice A0_0 l0_0.length c0_0)] 44 (0, 0))) ∧ Aside0 (Below w.heap.size w w'))
 case atStart => exact ⟨(y371), (0), (by rfl), H', ⟨Nat.le_refl _⟩, ⟨HO373.out⟩, ⟨BK370.out⟩, ⟨HB.out⟩⟩
 case round =>
  clear H'
  try clear p2
  try clear c6
  try clear hcz6_0
  try clear hfz6_0
  obtain ⟨x5_1, x12_1, rfl, HA, HK1, HO_5, BK370, HB⟩ := hrel
  cases gk with
  | zero => exact absurd HA.out (by simp [impl_Trie_kids.l0])
  | succ k1 =>
   have H := HA.out
   clear HA
   simp only [impl_Trie_kids.l0] at H
   by_cases c7 : x12_1 < (l0_0.length : Int)
   ·
    rw [if_pos c7] at H
    have c7b0 := decide_eq_true c7
    clear c7
    by_cases c8 : 0 ≤ x12_1
    ·
     rw [if_pos c8] at H
     have c8b0 := decide_eq_true c8
     clear c8
     by_cases c9 : x12_1 < (l0_0.length : Int)
     ·
      rw [if_pos c9] at H
      have c9b0 := decide_eq_true c9
      clear c9
      by_cases c10 : ((rd_T73 l0_0 x12_1).f1) = a1
      ·
       rw [if_pos c10] at H
       have c10b0 : (((rd_T73 l0_0 x12_1).f1) == a1) = true := beq_iff_eq.mpr c10
       have c10b1 : (((rd_T73 l0_0 x12_1).f1) != a1) = false := bne_eq_false_iff_eq.mpr c10
       clear c10
       by_cases c11 : x5_1.length < 17592186044416
       ·
        rw [if_pos c11] at H
        have LMc11 := aM_ c11
        clear c11
        obtain ⟨y376, hy376⟩ : ∃ y_ : List Int, y_ = (x5_1 ++ [x12_1]) := ⟨_, rfl⟩
        replace H : (impl_Trie_kids.l0 k1 a1 y376 l0_0 (l0_0.length : Int) (wrap64 (x12_1 + 1))) = some r := by first | (rw [hy376]; with_reducible exact H) | (have H2_ := (Option.bind_some _ _).symm.trans H; rw [hy376]; with_reducible exact H2_) | (have H2_ := (Option.bind_some _ _).symm.trans H; with_reducible exact H2_) | with_reducible exact H | (rw [hy376]; exact H) | exact H
        have Ny376 := aM_ hy376
        clear hy376
        have H' := aM_ H
        clear H
        have p374 : 0 ≤ (x12_1 : Int) := of_decide_eq_true (by (with_reducible assumption))
        have q374 : x12_1 < (l0_0.length : Int) := of_decide_eq_true (by (with_reducible assumption))
        obtain ⟨ad374, e374, hx374_0, hx374_1, hx374_2⟩ := at_T73 HR0_0.out x12_1 p374 q374
        cases e374
        replace hx374_0 := (HB.out.cell (World.block_lt_of_cell? w _ hx374_0)).trans hx374_0
        replace hx374_1 := (HB.out.cell (World.block_lt_of_cell? w _ hx374_1)).trans hx374_1
        replace hx374_2 := (HB.out.cell (World.block_lt_of_cell? w _ hx374_2)).trans hx374_2
        replace p374 := eq_true p374
        replace q374 := eq_true q374
        go_wp2_with (first | ((with_reducible refine gate_dst (N := 7) rfl ?_); refine box_event ?hg (N := 7) ?hd (cs := #[.int .i64 0, .int .i64 0, .bool false]) (t := 73) ?hr ?_; (case hd => rfl); (case hg => rfl); (case hr => (go_simp; done)); intro gb375 hg w12 hbox hb; replace HO_5 := aM_ (Kd.R_below HO_5.out hb); have BK375 := aM_ (hbox); have GW375 := aM_ ((by rw [hg]; exact (below_size HB.out) : w.heap.size ≤ gb375)); have GE375 := GW375; replace HB := aM_ (below_step HB.out hb); have NB370_375 := aM_ ((by rw [hg]; exact Nat.ne_of_lt (blk_lt BK370.out) : gb370 ≠ gb375)); have NB375_370 := aM_ NB370_375.out.symm; replace BK370 := aM_ (blk_below BK370.out hb); clear hb hbox hg; have hnb13 := NB375_370.out; have hnc13 := NB370_375.out; have hcz14_0 : w12.cell? ⟨gb375, 0, none⟩ = some (.int .i64 0) := (blk_cell BK375.out 0).trans rfl; have hcz14_1 : w12.cell? ⟨gb375, 1, none⟩ = some (.int .i64 0) := (blk_cell BK375.out 1).trans rfl; have hcz14_2 : w12.cell? ⟨gb375, 2, none⟩ = some (.bool false) := (blk_cell BK375.out 2).trans rfl; have hfz14_0 := blk_frozen BK375.out 0; have hfz14_1 := blk_frozen BK375.out 1; have hfz14_2 := blk_frozen BK375.out 2) | ((with_reducible refine gate_builtin (b := .append) (xs := #[.tmp 21, .tmp 23]) rfl ?_); at_builtin; refine Kd.R_append (Kd.int .i64) (w0 := w) w.heap.size rfl (.tmp 21) (.tmp 23) 75 3 (.int .i64 0) 8 rfl Tryd.underlying75 info3 rfl (by decide) (by omega) u5 x5_1 x12_1 [.int .i64 x12_1] (fun _ => True) (fun _ => False) rfl (by (go_simp; done)) ?aP (fun _ hk => hk.elim) ?aF ?aO ?aB ?aS ?aL ?_; (case aP => exact rfl); (case aB => exact (by repeat (first | (with_reducible first | exact HB.out | apply below_alloc | apply pw_below_drewN | apply below_drew1 | refine below_set ?_ GE370.out | refine below_set ?_ GE375.out) | exact HB.out))); (case aF => exact (fun _ _ => trivial)); (case aO => exact (by exact Kd.R_mono (Kd.R_far (p := ⟨gb375, 2, none⟩) (Kd.R_far (p := ⟨gb375, 1, none⟩) (Kd.R_far (p := ⟨gb375, 0, none⟩) (Kd.R_types HO_5.out BK375.out (by decide)) (fun _ hk => hk.2) (.int .i64 ((rd_T73 l0_0 x12_1).f0))) (fun _ hk => hk.2) (.int .i64 ((rd_T73 l0_0 x12_1).f1))) (fun _ hk => hk.2) (.bool ((rd_T73 l0_0 x12_1).f2))) (fun _ hk => trivial))); (case aS => exact (below_size (by repeat (first | (with_reducible first | exact HB.out | apply below_alloc | apply pw_below_drewN | apply below_drew1 | refine below_set ?_ GE370.out | refine below_set ?_ GE375.out) | exact HB.out)))); (case aL => have := LMc11.out; omega); intro v377 w15 ho hb hg hat; rw [← Ny376.out] at ho; have n0_ := aM_ (blk_grown (g := gb370) (o := .cells #[.slice (some ad374) l0_0.length c0_0] 44 (0, 0)) (by refine blk_far ?_ NB370_375.out _; refine blk_far ?_ NB370_375.out _; refine blk_far ?_ NB370_375.out _; exact BK370.out) hg (Kd.R_ne HO_5.out BK370.out (by decide))); have n1_ := aM_ (blk_grown (g := gb375) (o := .cells #[.int .i64 ((rd_T73 l0_0 x12_1).f0), .int .i64 ((rd_T73 l0_0 x12_1).f1), .bool ((rd_T73 l0_0 x12_1).f2)] 73 (0, 0)) (by refine blk_put (cs := #[.int .i64 ((rd_T73 l0_0 x12_1).f0), .int .i64 ((rd_T73 l0_0 x12_1).f1), .bool false]) ?_ 2 _ rfl; refine blk_put (cs := #[.int .i64 ((rd_T73 l0_0 x12_1).f0), .int .i64 0, .bool false]) ?_ 1 _ rfl; refine blk_put (cs := #[.int .i64 0, .int .i64 0, .bool false]) ?_ 0 _ rfl; exact BK375.out) hg (Kd.R_ne HO_5.out BK375.out (by decide))); have n2_ := aM_ (hb); have n3_ := aM_ (ho); clear BK370; clear BK375; clear HB; clear HO_5; have BK370 := n0_; have BK375 := n1_; have HB := n2_; have HO378 := n3_; clear n0_ n1_ n2_ n3_; clear ho hb hg hat))
        go_roundg k1
        case measure => have := HK1.out; omega
        case rel => exact ⟨(y376), (wrap64 (x12_1 + 1)), (by rfl), H', ⟨by have := HK1.out; omega⟩, ⟨HO378.out⟩, ⟨BK370.out⟩, ⟨HB.out⟩⟩
       ·
        rw [if_neg c11] at H
        exact absurd H (by simp)
      ·
       rw [if_neg c10] at H
       have c10b0 : (((rd_T73 l0_0 x12_1).f1) == a1) = false := beq_eq_false_iff_ne.mpr c10
       have c10b1 : (((rd_T73 l0_0 x12_1).f1) != a1) = true := bne_iff_ne.mpr c10
       have H' := aM_ H
       clear H
       have p374 : 0 ≤ (x12_1 : Int) := of_decide_eq_true (by (with_reducible assumption))
       have q374 : x12_1 < (l0_0.length : Int) := of_decide_eq_true (by (with_reducible assumption))
       obtain ⟨ad374, e374, hx374_0, hx374_1, hx374_2⟩ := at_T73 HR0_0.out x12_1 p374 q374
       cases e374
       replace hx374_0 := (HB.out.cell (World.block_lt_of_cell? w _ hx374_0)).trans hx374_0
       replace hx374_1 := (HB.out.cell (World.block_lt_of_cell? w _ hx374_1)).trans hx374_1
       replace hx374_2 := (HB.out.cell (World.block_lt_of_cell? w _ hx374_2)).trans hx374_2
       replace p374 := eq_true p374
       replace q374 := eq_true q374
       go_wp2_with (first | ((with_reducible refine gate_dst (N := 7) rfl ?_); refine box_event ?hg (N := 7) ?hd (cs := #[.int .i64 0, .int .i64 0, .bool false]) (t := 73) ?hr ?_; (case hd => rfl); (case hg => rfl); (case hr => (go_simp; done)); intro gb375 hg w16 hbox hb; replace HO_5 := aM_ (Kd.R_below HO_5.out hb); have BK375 := aM_ (hbox); have GW375 := aM_ ((by rw [hg]; exact (below_size HB.out) : w.heap.size ≤ gb375)); have GE375 := GW375; replace HB := aM_ (below_step HB.out hb); have NB370_375 := aM_ ((by rw [hg]; exact Nat.ne_of_lt (blk_lt BK370.out) : gb370 ≠ gb375)); have NB375_370 := aM_ NB370_375.out.symm; replace BK370 := aM_ (blk_below BK370.out hb); clear hb hbox hg; have hnb17 := NB375_370.out; have hnc17 := NB370_375.out; have hcz18_0 : w16.cell? ⟨gb375, 0, none⟩ = some (.int .i64 0) := (blk_cell BK375.out 0).trans rfl; have hcz18_1 : w16.cell? ⟨gb375, 1, none⟩ = some (.int .i64 0) := (blk_cell BK375.out 1).trans rfl; have hcz18_2 : w16.cell? ⟨gb375, 2, none⟩ = some (.bool false) := (blk_cell BK375.out 2).trans rfl; have hfz18_0 := blk_frozen BK375.out 0; have hfz18_1 := blk_frozen BK375.out 1; have hfz18_2 := blk_frozen BK375.out 2))
       go_roundg k1
       case measure => have := HK1.out; omega
       case rel => exact ⟨(x5_1), (wrap64 (x12_1 + 1)), (by rfl), H', ⟨by have := HK1.out; omega⟩, ⟨by exact Kd.R_mono (Kd.R_far (p := ⟨gb375, 2, none⟩) (Kd.R_far (p := ⟨gb375, 1, none⟩) (Kd.R_far (p := ⟨gb375, 0, none⟩) (Kd.R_types HO_5.out BK375.out (by decide)) (fun _ hk => hk.2) (.int .i64 ((rd_T73 l0_0 x12_1).f0))) (fun _ hk => hk.2) (.int .i64 ((rd_T73 l0_0 x12_1).f1))) (fun _ hk => hk.2) (.bool ((rd_T73 l0_0 x12_1).f2))) (fun _ hk => trivial)⟩, ⟨by refine blk_far ?_ NB370_375.out _; refine blk_far ?_ NB370_375.out _; refine blk_far ?_ NB370_375.out _; exact BK370.out⟩, ⟨by repeat (first | (with_reducible first | exact HB.out | apply below_alloc | apply pw_below_drewN | apply below_drew1 | refine below_set ?_ GE370.out | refine below_set ?_ GE375.out) | exact HB.out)⟩⟩
     ·
      rw [if_neg c9] at H
      exact absurd H (by simp)
    ·
     rw [if_neg c8] at H
     exact absurd H (by simp)
   ·
    rw [if_neg c7] at H
    have c7b0 := decide_eq_false c7
    clear c7
    obtain rfl := Option.some.inj H
    go_wp2
    go_ret
    exact ⟨_, by rfl, by exact HO_5.out, by exact HB.out⟩
def impl_Trie_stays.f (k : Nat) (l0_0 : List (S73)) (a1 : Int) : Option (Bool) := if a1 = 0 then (some true) else (if 0 ≤ a1 then (if a1 < (l0_0.length : Int) then (if (rd_T73 l0_0 a1).f2 = true then (some true) else ((impl_Trie_kids.f k l0_0 a1).bind fun t381 => (some ((t381.length : Int) != 1)))) else (none)) else (none))
theorem impl_Trie_stays.mono : ∀ a0 a1 k, LeO (impl_Trie_stays.f k a0 a1) (impl_Trie_stays.f (k + 1) a0 a1) := by
 intro a0 a1 k
 unfold impl_Trie_stays.f
 repeat' first
   | (with_reducible exact impl_Trie_kids.mono _ _ _)
   | (with_reducible exact LeO.refl _)
   | (with_reducible exact LeO.none _)
   | (with_reducible refine LeO.ite ?_ ?_)
   | (with_reducible refine LeO.bind ?_ (fun _ => ?_))
   | exact impl_Trie_kids.mono _ _ _
   | exact LeO.none _
   | refine LeO.ite ?_ ?_
   | refine LeO.bind ?_ (fun _ => ?_)
theorem impl_Trie_stays.calls (k : Nat) (A0_0 : Option Addr) (c0_0 : Nat) (l0_0 : List (S73)) (a1 : Int) (r : Bool) (w : World) (hr0_0 : Kd.C k73 w A0_0 l0_0.length l0_0) (hc0_0 : l0_0.length ≤ c0_0) (h : impl_Trie_stays.f k l0_0 a1 = some r) :
  Calls Tryd.prog 57 #[.agg #[.slice A0_0 l0_0.length c0_0], .int .i64 a1] w fun e w' => e = .returned (.bool r) ∧ Below w.heap.size w w' := by
 have hu44 := Tryd.underlying44
 have HR0_0 := aM_ hr0_0
 have HC0_0 := aM_ hc0_0
 clear hr0_0 hc0_0
 have HB := aM_ (Below.refl w.heap.size w)
 have H : (if a1 = 0 then (some true) else (if 0 ≤ a1 then (if a1 < (l0_0.length : Int) then (if (rd_T73 l0_0 a1).f2 = true then (some true) else ((impl_Trie_kids.f k l0_0 a1).bind fun t381 => (some ((t381.length : Int) != 1)))) else (none)) else (none))) = some r := h
 clear h
 by_cases c3 : a1 = 0
 ·
  rw [if_pos c3] at H
  have c3b0 : (a1 == 0) = true := beq_iff_eq.mpr c3
  have c3b1 : (a1 != 0) = false := bne_eq_false_iff_eq.mpr c3
  clear c3
  obtain rfl := Option.some.inj H
  go_enter Tryd.func57, Tryd.ntmps57
  go_wp2_with (first | ((with_reducible refine gate_dst (N := 2) rfl ?_); (try (refine gate_guard (by rfl) ?_; dsimp only)); refine box_event ?hg (N := 2) ?hd (cs := #[.slice A0_0 l0_0.length c0_0]) (t := 44) ?hr ?_; (case hd => rfl); (case hg => rfl); (case hr => (go_simp; done)); intro gb379 hg w4 hbox hb; have BK379 := aM_ (hbox); have GW379 := aM_ ((by rw [hg]; exact (below_size HB.out) : w.heap.size ≤ gb379)); have GE379 := GW379; replace HB := aM_ (below_step HB.out hb); clear hb hbox hg))
  go_ret
  exact ⟨by rfl, by exact HB.out⟩
 ·
  rw [if_neg c3] at H
  have c3b0 : (a1 == 0) = false := beq_eq_false_iff_ne.mpr c3
  have c3b1 : (a1 != 0) = true := bne_iff_ne.mpr c3
  by_cases c5 : 0 ≤ a1
  rotate_left
  ·
   rw [if_neg c5] at H
   exact absurd H (by simp)
  rw [if_pos c5] at H
  have c5b0 := decide_eq_true c5
  clear c5
  by_cases c6 : a1 < (l0_0.length : Int)
  rotate_left
  ·
   rw [if_neg c6] at H
   exact absurd H (by simp)
  rw [if_pos c6] at H
  have c6b0 := decide_eq_true c6
  clear c6
  obtain ⟨bq7, hbq7⟩ : ∃ b_ : Bool, b_ = ((rd_T73 l0_0 a1).f2) := ⟨_, rfl⟩
  replace H : (if bq7 = true then (some true) else ((impl_Trie_kids.f k l0_0 a1).bind fun t381 => (some ((t381.length : Int) != 1)))) = some r := by rw [← hbq7] at H; exact H
  have Nbq7 := aM_ hbq7
  clear hbq7
  by_cases c8 : bq7 = true
  ·
   subst c8
   rw [if_pos rfl] at H
   obtain rfl := Option.some.inj H
   go_enter Tryd.func57, Tryd.ntmps57
   go_wp2_with (first | ((with_reducible refine gate_dst (N := 2) rfl ?_); (try (refine gate_guard (by rfl) ?_; dsimp only)); refine box_event ?hg (N := 2) ?hd (cs := #[.slice A0_0 l0_0.length c0_0]) (t := 44) ?hr ?_; (case hd => rfl); (case hg => rfl); (case hr => (go_simp; done)); intro gb379 hg w9 hbox hb; have BK379 := aM_ (hbox); have GW379 := aM_ ((by rw [hg]; exact (below_size HB.out) : w.heap.size ≤ gb379)); have GE379 := GW379; replace HB := aM_ (below_step HB.out hb); clear hb hbox hg; have hcz10_0 : w9.cell? ⟨gb379, 0, none⟩ = some (.slice A0_0 l0_0.length c0_0) := (blk_cell BK379.out 0).trans rfl; have hfz10_0 := blk_frozen BK379.out 0; have p380 : 0 ≤ (a1 : Int) := of_decide_eq_true (by (with_reducible assumption)); have q380 : a1 < (l0_0.length : Int) := of_decide_eq_true (by (with_reducible assumption)); obtain ⟨ad380, e380, hx380_0, hx380_1, hx380_2⟩ := at_T73 HR0_0.out a1 p380 q380; (try rw [← Nbq7.out] at hx380_2); cases e380; replace hx380_0 := (HB.out.cell (World.block_lt_of_cell? w _ hx380_0)).trans hx380_0; replace hx380_1 := (HB.out.cell (World.block_lt_of_cell? w _ hx380_1)).trans hx380_1; replace hx380_2 := (HB.out.cell (World.block_lt_of_cell? w _ hx380_2)).trans hx380_2; replace p380 := eq_true p380; replace q380 := eq_true q380))
   go_ret
   exact ⟨by rfl, by exact HB.out⟩
  ·
   replace c8 := Bool.eq_false_iff.mpr c8
   subst c8
   have H1 : ((impl_Trie_kids.f k l0_0 a1).bind fun t381 => (some ((t381.length : Int) != 1))) = some r := by rw [if_neg (show ¬ (false = true) by decide)] at H; exact H
   clear H
   have H := H1
   clear H1
   replace H := Option.bind_eq_some_iff.mp H
   obtain ⟨t381, A110, H⟩ := H
   try dsimp only at H
   have A11 := aM_ A110
   clear A110
   obtain rfl := Option.some.inj H
   go_enter Tryd.func57, Tryd.ntmps57
   go_wp2_with (first | ((with_reducible refine gate_dst (N := 2) rfl ?_); (try (refine gate_guard (by rfl) ?_; dsimp only)); refine box_event ?hg (N := 2) ?hd (cs := #[.slice A0_0 l0_0.length c0_0]) (t := 44) ?hr ?_; (case hd => rfl); (case hg => rfl); (case hr => (go_simp; done)); intro gb379 hg w12 hbox hb; have BK379 := aM_ (hbox); have GW379 := aM_ ((by rw [hg]; exact (below_size HB.out) : w.heap.size ≤ gb379)); have GE379 := GW379; replace HB := aM_ (below_step HB.out hb); clear hb hbox hg; have hcz13_0 : w12.cell? ⟨gb379, 0, none⟩ = some (.slice A0_0 l0_0.length c0_0) := (blk_cell BK379.out 0).trans rfl; have hfz13_0 := blk_frozen BK379.out 0; have p380 : 0 ≤ (a1 : Int) := of_decide_eq_true (by (with_reducible assumption)); have q380 : a1 < (l0_0.length : Int) := of_decide_eq_true (by (with_reducible assumption)); obtain ⟨ad380, e380, hx380_0, hx380_1, hx380_2⟩ := at_T73 HR0_0.out a1 p380 q380; (try rw [← Nbq7.out] at hx380_2); cases e380; replace hx380_0 := (HB.out.cell (World.block_lt_of_cell? w _ hx380_0)).trans hx380_0; replace hx380_1 := (HB.out.cell (World.block_lt_of_cell? w _ hx380_1)).trans hx380_1; replace hx380_2 := (HB.out.cell (World.block_lt_of_cell? w _ hx380_2)).trans hx380_2; replace p380 := eq_true p380; replace q380 := eq_true q380) | (go_at_call 67; (with_reducible refine (impl_Trie_kids.calls k _ _ l0_0 a1 t381 _ ?side1 ?side2 A11.out).mono ?_); (case side1 => repeat (first | exact (Kd.C_below HR0_0.out HB.out) | (with_reducible refine Kd.C_alloc ?_ _) | (with_reducible refine Kd.C_drewN ?_ _) | (with_reducible refine Kd.C_drew ?_))); (case side2 => exact HC0_0.out); rintro e w14 ⟨v382, rfl, ho0, hb⟩; have HO383 := aM_ (Kd.R_lower ho0 (below_size HB.out)); replace BK379 := aM_ (blk_below BK379.out hb); replace HB := aM_ (below_step HB.out hb); (try clear hb); (try clear hb2); (try clear hk); (try clear hi); (try clear ho0); obtain ⟨Ao15, co15, eo15⟩ := Kd.R_slice HO383.out; subst eo15))
   go_ret
   exact ⟨by rfl, by exact HB.out⟩
mutual
def impl_Trie_press.l0 : Nat → List ByteArray → List Int → List (S73) → Int → Int → List (S73) → List (S56) → Option ((List (S56)))
 | 0, _, _, _, _, _, _, _ => none
 | k + 1, x3, x6, x22, x23, x24, x385000, x394000 => if x24 < x23 then (if 0 ≤ x24 then (if x24 < (x22.length : Int) then ((impl_Trie_stays.f k x385000 x24).bind fun t396 => (if t396 = true then (if x24 > 0 then (impl_Trie_press.l1 k x3 x6 x24 ((rd_T73 x22 x24).f1) x22 x23 x24 x385000 x394000 (⟨#[]⟩ : ByteArray) (-1) ((rd_T73 x22 x24).f2)) else (if x24 < (x6.length : Int) then (if x394000.length < 4398046511104 then (impl_Trie_press.l0 k x3 (x6.set (x24 : Int).toNat (x394000.length : Int)) x22 x23 (wrap64 (x24 + 1)) x385000 (x394000 ++ [(⟨(⟨#[]⟩ : ByteArray), (-1), (rd_T73 x22 x24).f2⟩ : S56)])) else (none)) else (none))) else (impl_Trie_press.l0 k x3 x6 x22 x23 (wrap64 (x24 + 1)) x385000 x394000))) else (none)) else (none)) else (some x394000)
def impl_Trie_press.l1 : Nat → List ByteArray → List Int → Int → Int → List (S73) → Int → Int → List (S73) → List (S56) → ByteArray → Int → Bool → Option ((List (S56)))
 | 0, _, _, _, _, _, _, _, _, _, _, _, _ => none
 | k + 1, x3, x6, x7, x10, x22, x23, x24, x385000, x394000, x398000, x398001, x398002 => (impl_Trie_stays.f k x385000 x10).bind fun t398 => (if t398 = true then (if 0 ≤ x7 then (if x7 < (x3.length : Int) then (if 0 ≤ x10 then (if x10 < (x3.length : Int) then (if 0 ≤ ((rdOf ByteArray.empty x3 x10).size : Int) then (if ((rdOf ByteArray.empty x3 x10).size : Int) ≤ ((rdOf ByteArray.empty x3 x7).size : Int) then (if x10 < (x6.length : Int) then (if x7 < (x6.length : Int) then (if x394000.length < 4398046511104 then (impl_Trie_press.l0 k x3 (x6.set (x7 : Int).toNat (x394000.length : Int)) x22 x23 (wrap64 (x24 + 1)) x385000 (x394000 ++ [(⟨(rdOf ByteArray.empty x3 x7).extract (((rdOf ByteArray.empty x3 x10).size : Int) : Int).toNat (rdOf ByteArray.empty x3 x7).size, rd x6 x10, x398002⟩ : S56)])) else (none)) else (none)) else (none)) else (none)) else (none)) else (none)) else (none)) else (none)) else (none)) else (if 0 ≤ x10 then (if x10 < (x385000.length : Int) then (impl_Trie_press.l1 k x3 x6 x7 ((rd_T73 x385000 x10).f1) x22 x23 x24 x385000 x394000 x398000 x398001 x398002) else (none)) else (none)))
end
def impl_Trie_press.f (k : Nat) (l0_0 : List (S73)) : Option ((List (S56))) := (impl_Trie_prefixes.f k l0_0).bind fun bt386 => (if 0 ≤ (l0_0.length : Int) then (if ((l0_0.length : Int) : Int).toNat ≤ 35184372088832 then (impl_Trie_press.l0 k bt386.1 (List.replicate ((l0_0.length : Int) : Int).toNat 0) l0_0 (l0_0.length : Int) 0 l0_0 ([] : List (S56))) else (none)) else (none))
theorem impl_Trie_press.mono_l : ∀ k, (∀ y0 y1 y2 y3 y4 y5 y6, LeO (impl_Trie_press.l0 k y0 y1 y2 y3 y4 y5 y6) (impl_Trie_press.l0 (k + 1) y0 y1 y2 y3 y4 y5 y6)) ∧ (∀ y0 y1 y2 y3 y4 y5 y6 y7 y8 y9 y10 y11, LeO (impl_Trie_press.l1 k y0 y1 y2 y3 y4 y5 y6 y7 y8 y9 y10 y11) (impl_Trie_press.l1 (k + 1) y0 y1 y2 y3 y4 y5 y6 y7 y8 y9 y10 y11))
 | 0 => ⟨fun _ _ _ _ _ _ _ r h => by simp [impl_Trie_press.l0] at h, fun _ _ _ _ _ _ _ _ _ _ _ _ r h => by simp [impl_Trie_press.l1] at h⟩
 | k + 1 => by
  obtain ⟨ih0, ih1⟩ := impl_Trie_press.mono_l k
  refine ⟨?_, ?_⟩
  ·
   intro y0 y1 y2 y3 y4 y5 y6
   unfold impl_Trie_press.l0
   repeat' first
   | (with_reducible exact ih0 _ _ _ _ _ _ _)
   | (with_reducible exact ih1 _ _ _ _ _ _ _ _ _ _ _ _)
   | (with_reducible exact impl_Trie_prefixes.mono _ _)
   | (with_reducible exact impl_Trie_stays.mono _ _ _)
   | (with_reducible exact LeO.refl _)
   | (with_reducible exact LeO.none _)
   | (with_reducible refine LeO.ite ?_ ?_)
   | (with_reducible refine LeO.bind ?_ (fun _ => ?_))
   | exact ih0 _ _ _ _ _ _ _
   | exact ih1 _ _ _ _ _ _ _ _ _ _ _ _
   | exact impl_Trie_prefixes.mono _ _
   | exact impl_Trie_stays.mono _ _ _
   | exact LeO.none _
   | refine LeO.ite ?_ ?_
   | refine LeO.bind ?_ (fun _ => ?_)
  ·
   intro y0 y1 y2 y3 y4 y5 y6 y7 y8 y9 y10 y11
   unfold impl_Trie_press.l1
   repeat' first
   | (with_reducible exact ih0 _ _ _ _ _ _ _)
   | (with_reducible exact ih1 _ _ _ _ _ _ _ _ _ _ _ _)
   | (with_reducible exact impl_Trie_prefixes.mono _ _)
   | (with_reducible exact impl_Trie_stays.mono _ _ _)
   | (with_reducible exact LeO.refl _)
   | (with_reducible exact LeO.none _)
   | (with_reducible refine LeO.ite ?_ ?_)
   | (with_reducible refine LeO.bind ?_ (fun _ => ?_))
   | exact ih0 _ _ _ _ _ _ _
   | exact ih1 _ _ _ _ _ _ _ _ _ _ _ _
   | exact impl_Trie_prefixes.mono _ _
   | exact impl_Trie_stays.mono _ _ _
   | exact LeO.none _
   | refine LeO.ite ?_ ?_
   | refine LeO.bind ?_ (fun _ => ?_)
theorem impl_Trie_press.mono : ∀ a0 k, LeO (impl_Trie_press.f k a0) (impl_Trie_press.f (k + 1) a0) := by
 intro a0 k
 obtain ⟨ih0, ih1⟩ := impl_Trie_press.mono_l k
 unfold impl_Trie_press.f
 repeat' first
   | (with_reducible exact ih0 _ _ _ _ _ _ _)
   | (with_reducible exact ih1 _ _ _ _ _ _ _ _ _ _ _ _)
   | (with_reducible exact impl_Trie_prefixes.mono _ _)
   | (with_reducible exact impl_Trie_stays.mono _ _ _)
   | (with_reducible exact LeO.refl _)
   | (with_reducible exact LeO.none _)
   | (with_reducible refine LeO.ite ?_ ?_)
   | (with_reducible refine LeO.bind ?_ (fun _ => ?_))
   | exact ih0 _ _ _ _ _ _ _
   | exact ih1 _ _ _ _ _ _ _ _ _ _ _ _
   | exact impl_Trie_prefixes.mono _ _
   | exact impl_Trie_stays.mono _ _ _
   | exact LeO.none _
   | refine LeO.ite ?_ ?_
   | refine LeO.bind ?_ (fun _ => ?_)
def impl_Trie_press.T2 : Bool × List (List Nat × List Nat) := (true, [([], []), ([], []), ([1], [1]), ([2], [2]), ([3, 3], [3]), ([], []), ([5, 0, 0, 5], [0, 5]), ([4, 6, 0, 1, 2, 3, 4, 5, 6], [4])])
def impl_Trie_press.B2 : List Nat := [0, 0, 2, 6, 14, 0, 33, 127]
theorem impl_Trie_press.tab2 : rtab .any (opsOf Tryd.f43 2) = impl_Trie_press.T2 := by kernel_rfl
theorem impl_Trie_press.bits2 : waitsOk impl_Trie_press.T2.2 impl_Trie_press.B2 = true := by kernel_rfl
def impl_Trie_press.T12 : Bool × List (List Nat × List Nat) := (true, [([], []), ([], []), ([0, 1], [0, 1]), ([2], [2]), ([], []), ([], []), ([4, 5], [4, 5]), ([6], [6]), ([7], [7]), ([3, 8], [3, 8]), ([], []), ([], []), ([10, 11], [10, 11]), ([12], [12]), ([0, 1, 2, 3, 4, 5, 6, 7, 8, 9], []), ([14, 9, 0, 1, 2, 3, 4, 5, 6, 7, 8, 9], [9, 14]), ([0, 1, 2, 3, 4, 5, 6, 7, 8, 9, 10, 11, 12, 13, 14, 15], []), ([16, 13, 15, 0, 1, 2, 3, 4, 5, 6, 7, 8, 9, 10, 11, 12, 13, 14, 15], [13, 16])])
def impl_Trie_press.B12 : List Nat := [0, 0, 3, 7, 0, 0, 48, 112, 240, 511, 0, 0, 3072, 7168, 1023, 17407, 65535, 131071]
theorem impl_Trie_press.tab12 : rtab .any (opsOf Tryd.f43 12) = impl_Trie_press.T12 := by kernel_rfl
theorem impl_Trie_press.bits12 : waitsOk impl_Trie_press.T12.2 impl_Trie_press.B12 = true := by kernel_rfl
theorem impl_Trie_press.calls (k : Nat) (A0_0 : Option Addr) (c0_0 : Nat) (l0_0 : List (S73)) (r : List (S56)) (w : World) (hr0_0 : Kd.C k73 w A0_0 l0_0.length l0_0) (hc0_0 : l0_0.length ≤ c0_0) (h : impl_Trie_press.f k l0_0 = some r) :
  Calls Tryd.prog 43 #[.agg #[.slice A0_0 l0_0.length c0_0]] w fun e w' => ∃ v0_ : Value, e = .returned (.agg #[v0_]) ∧ Kd.R k56 56 w' w.heap.size (fun _ => True) v0_ r ∧ Below w.heap.size w w' := by
 have hu44 := Tryd.underlying44
 have hu29 := Tryd.underlying29
 have hu73 := Tryd.underlying73
 have hu56 := Tryd.underlying56
 have HR0_0 := aM_ hr0_0
 have HC0_0 := aM_ hc0_0
 clear hr0_0 hc0_0
 have HB := aM_ (Below.refl w.heap.size w)
 have H : ((impl_Trie_prefixes.f k l0_0).bind fun bt386 => (if 0 ≤ (l0_0.length : Int) then (if ((l0_0.length : Int) : Int).toNat ≤ 35184372088832 then (impl_Trie_press.l0 k bt386.1 (List.replicate ((l0_0.length : Int) : Int).toNat 0) l0_0 (l0_0.length : Int) 0 l0_0 ([] : List (S56))) else (none)) else (none))) = some r := h
 clear h
 replace H := Option.bind_eq_some_iff.mp H
 obtain ⟨⟨t386, t389⟩, A20, H⟩ := H
 try dsimp only at H
 have A2 := aM_ A20
 clear A20
 by_cases c3 : 0 ≤ (l0_0.length : Int)
 rotate_left
 ·
  rw [if_neg c3] at H
  exact absurd H (by simp)
 rw [if_pos c3] at H
 have c3b0 := eq_true c3
 have c3b1 := decide_eq_true c3
 clear c3
 by_cases c4 : ((l0_0.length : Int) : Int).toNat ≤ 35184372088832
 rotate_left
 ·
  rw [if_neg c4] at H
  exact absurd H (by simp)
 rw [if_pos c4] at H
 have c4b0 := eq_true c4
 have c4b1 := decide_eq_true c4
 clear c4
 obtain ⟨y390, hy390⟩ : ∃ y_ : List Int, y_ = (List.replicate ((l0_0.length : Int) : Int).toNat 0) := ⟨_, rfl⟩
 replace H : (impl_Trie_press.l0 k t386 y390 l0_0 (l0_0.length : Int) 0 l0_0 ([] : List (S56))) = some r := by first | (rw [hy390]; with_reducible exact H) | (have H2_ := (Option.bind_some _ _).symm.trans H; rw [hy390]; with_reducible exact H2_) | (have H2_ := (Option.bind_some _ _).symm.trans H; with_reducible exact H2_) | with_reducible exact H | (rw [hy390]; exact H) | exact H
 have Ny390 := aM_ hy390
 clear hy390
 have H' := aM_ H
 clear H
 go_enter Tryd.func43, Tryd.ntmps43
 try go_wp2_with (first | ((with_reducible refine gate_dst (N := 1) rfl ?_); refine box_event ?hg (N := 1) ?hd (cs := #[.slice A0_0 l0_0.length c0_0]) (t := 44) ?hr ?_; (case hd => rfl); (case hg => rfl); (case hr => (go_simp; done)); intro gb384 hg w5 hbox hb; have BK384 := aM_ (hbox); have GW384 := aM_ ((by rw [hg]; exact (below_size HB.out) : w.heap.size ≤ gb384)); have GE384 := GW384; replace HB := aM_ (below_step HB.out hb); clear hb hbox hg) | ((with_reducible refine gate_dst (N := 2) rfl ?_); refine box_event ?hg (N := 2) ?hd (cs := #[.slice none 0 0]) (t := 29) ?hr ?_; (case hd => rfl); (case hg => rfl); (case hr => (go_simp; done)); intro gb385 hg w6 hbox hb; have BK385 := aM_ (hbox); have GW385 := aM_ ((by rw [hg]; exact (below_size HB.out) : w.heap.size ≤ gb385)); have GE385 := GW385; replace HB := aM_ (below_step HB.out hb); have NB384_385 := aM_ ((by rw [hg]; exact Nat.ne_of_lt (blk_lt BK384.out) : gb384 ≠ gb385)); have NB385_384 := aM_ NB384_385.out.symm; replace BK384 := aM_ (blk_below BK384.out hb); clear hb hbox hg; have hnb7 := NB384_385.out; have hnc7 := NB385_384.out; have hcz8_0 : w6.cell? ⟨gb384, 0, none⟩ = some (.slice A0_0 l0_0.length c0_0) := (blk_cell BK384.out 0).trans rfl; have hfz8_0 := blk_frozen BK384.out 0) | ((with_reducible refine gate_callee (f := 56) rfl ?_); refine goesL_ (some 13) rfl rfl Tryd.func56 (by kernel_rfl) rfl #[.agg #[.slice A0_0 l0_0.length c0_0]] rfl (by (try simp only [sD_, sE_, sF_]); rfl) ?_; (with_reducible refine (impl_Trie_prefixes.calls k _ _ l0_0 t386 t389 _ ?side1 ?side2 A2.out).mono ?_); (case side1 => repeat (first | exact (Kd.C_below HR0_0.out HB.out) | (with_reducible refine Kd.C_alloc ?_ _) | (with_reducible refine Kd.C_drewN ?_ _) | (with_reducible refine Kd.C_drew ?_))); (case side2 => exact HC0_0.out); rintro e w9 ⟨v387, rfl, ho0, hb⟩; refine ⟨_, rfl, ?_⟩; have HO388 := aM_ (Kd.R_lower ho0 (below_size HB.out)); replace BK384 := aM_ (blk_below BK384.out hb); replace BK385 := aM_ (blk_below BK385.out hb); replace HB := aM_ (below_step HB.out hb); (try clear hb); (try clear hb2); (try clear hk); (try clear hi); (try clear ho0)))
 have n0_ := aM_ (Kd.R_drew HO388.out)
 have n1_ := aM_ (blk_drew BK384.out)
 have n2_ := aM_ (blk_drew BK385.out)
 have n3_ := aM_ (below_drew1 HB.out)
 clear HO388
 clear BK384
 clear BK385
 clear HB
 have HO388 := n0_
 have BK384 := n1_
 have BK385 := n2_
 have HB := n3_
 clear n0_ n1_ n2_ n3_
 refine start_ (n := 8) (S := fun w' => w'.cell? ⟨gb384, 0, none⟩ = some (.slice A0_0 l0_0.length c0_0)) (ds := []) #[fy, fy, fy, fy, fy, fy, fy, fy] (by kernel_rfl) rfl rfl ((blk_cell BK384.out 0).trans rfl) (fun hHeld => ?_); refine with_tabW impl_Trie_press.tab2 impl_Trie_press.bits2 (fun HT_ HW_ => ?_)
 generalize w9.drew = w10 at HO388 BK384 BK385 HB hHeld ⊢
 refine pure_ (i := 0) (N := some 16) (v := ?_) (a' := ?_) #[ty, fy, fy, fy, fy, fy, fy, fy] rfl rfl (any_of HT_.out (by kernel_rfl)) (fun _ _ _ h => h) (Or.inl ⟨by rfl, ?_⟩) ?_ ?_; rotate_left; (intro w'; go_simp; with_reducible rfl); rotate_left; (simp only [Act.put, sA_, sB_, sC_, i64_w, i32_w]; rfl)
 refine pure_ (i := 1) (N := some 17) (v := ?_) (a' := ?_) #[ty, ty, fy, fy, fy, fy, fy, fy] rfl rfl (any_of HT_.out (by kernel_rfl)) (fun _ _ _ h => h) (Or.inl ⟨by rfl, ?_⟩) ?_ ?_; rotate_left; (intro w'; go_simp; with_reducible rfl); rotate_left; (simp only [Act.put, sA_, sB_, sC_, i64_w, i32_w]; rfl)
 refine take_ (i := 2) (N := some 18) (v := ?_) (a' := ?_) #[ty, ty, ty, fy, fy, fy, fy, fy] rfl rfl (take_ofW HT_.out HW_.out (by kernel_rfl)) (fun _ _ _ h => h) (Or.inl ⟨by rfl, ?_⟩) hHeld ?_ ?_; rotate_left; (intro w' s0; go_simp; with_reducible rfl); rotate_left; (simp only [Act.put, sA_, sB_, sC_, i64_w, i32_w]; rfl)
 refine pure_ (i := 3) (N := some 19) (v := ?_) (a' := ?_) #[ty, ty, ty, ty, fy, fy, fy, fy] rfl rfl (any_of HT_.out (by kernel_rfl)) (fun _ _ _ h => h) (Or.inl ⟨by rfl, ?_⟩) ?_ ?_; rotate_left; (intro w'; go_simp; with_reducible rfl); rotate_left; (simp only [Act.put, sA_, sB_, sC_, i64_w, i32_w]; rfl)
 refine join_ (σ := Value × Nat) 1 #[ty, ty, ty, ty, ty, ty, ty, fy] (fun s_ => [(20, s_.1), (5, .pointer (some ⟨s_.2, 0, none⟩))]) (fun s_ w' => (w'.cell? ⟨gb384, 0, none⟩ = some (.slice A0_0 l0_0.length c0_0)) ∧ (Kd.R Kd.string 9 w' w.heap.size (fun _ => True) v387 t386) ∧ (Kd.R (Kd.int .i64) 3 w' w.heap.size (fun _ => True) s_.1 y390) ∧ (w'.heap[gb384]? = some (.cells #[.slice A0_0 l0_0.length c0_0] 44 (0, 0))) ∧ (w'.heap[gb385]? = some (.cells #[.slice none 0 0] 29 (0, 0))) ∧ (w'.heap[s_.2]? = some (.cells #[.slice none 0 0] 29 (0, 0))) ∧ (w.heap.size ≤ s_.2) ∧ (w.heap.size ≤ s_.2) ∧ (gb384 ≠ s_.2) ∧ (s_.2 ≠ gb384) ∧ (gb385 ≠ s_.2) ∧ (s_.2 ≠ gb385) ∧ (Below w.heap.size w w')) ?_ ?_
 rotate_left
 ·
  intro hCont
  refine two_ (i := 4) (j := 5) (Ni := some 20) (Nj := some 5) #[ty, ty, ty, ty, ty, fy, fy, fy] #[ty, ty, ty, ty, fy, ty, fy, fy] rfl rfl rfl rfl (two_of HT_.out (by kernel_rfl)) (by decide) (by decide) (fun K hK => ?_) (fun K hK => ?_)
  ·
   skip
   refine Kd.R_make_step (Kd.int .i64) _ 3 (by rfl) (N := 20) rfl 75 _ _ rfl (l0_0.length : Int) rfl rfl Tryd.underlying75 (.int .i64 0) 8 info3 rfl (by decide) (by omega) 0 (ok := fun _ => True) (okp := fun _ => True) rfl (fun _ hk => hk) trivial (of_decide_eq_true (by (with_reducible assumption))) (Nat.le_trans (Nat.mul_le_mul_right _ (of_decide_eq_true (by (with_reducible assumption)) : (l0_0.length : Int).toNat ≤ 35184372088832)) (by omega)) (Below.refl _ _) (Nat.le_refl _) ?_
   intro v391 w11 ho12 hb hg_ hnew_
   clear hg_ hnew_
   (rw [← Ny390.out] at ho12)
   have n0_ := aM_ (Kd.R_below HO388.out hb)
   have n1_ := aM_ (Kd.R_lower ho12 (below_size HB.out))
   have n2_ := aM_ (blk_below BK384.out hb)
   have n3_ := aM_ (blk_below BK385.out hb)
   have n4_ := aM_ (below_step HB.out hb)
   clear HO388
   clear BK384
   clear BK385
   clear HB
   have HO388 := n0_
   have HO392 := n1_
   have BK384 := n2_
   have BK385 := n3_
   have HB := n4_
   clear n0_ n1_ n2_ n3_ n4_
   clear hb ho12
   refine hK.out _ _ ((blk_cell BK384.out 0).trans rfl) (fun hHeld => ?_)
   clear hK K
   refine norm_ (a' := ?_) ?_ ?_; rotate_left; (show Act.put _ (some 20) _ = _; simp only [Act.put, sA_, sB_, sC_, i64_w, i32_w]; rfl)
   refine one_ (i := 5) (N := some 5) #[ty, ty, ty, ty, ty, ty, fy, fy] rfl rfl (one_of HT_.out (by kernel_rfl)) (by decide) (fun K hK => ?_)
   refine box_step ?hg (N := 5) ?hd (cs := #[.slice none 0 0]) (t := 29) ?hr ?_; (case hd => rfl); (case hg => rfl); (case hr => (go_simp; done))
   intro gb393 hg w13 hbox hb
   have n0_ := aM_ (Kd.R_below HO388.out hb)
   have n1_ := aM_ (Kd.R_below HO392.out hb)
   have n2_ := aM_ (blk_below BK384.out hb)
   have n3_ := aM_ (blk_below BK385.out hb)
   have n4_ := aM_ (below_step HB.out hb)
   have n5_ := aM_ (hbox)
   have n6_ := aM_ ((by rw [hg]; exact (below_size HB.out) : w.heap.size ≤ gb393))
   have n7_ := aM_ ((by rw [hg]; exact (below_size HB.out) : w.heap.size ≤ gb393))
   have n8_ := aM_ ((by rw [hg]; exact Nat.ne_of_lt (blk_lt BK384.out) : gb384 ≠ gb393))
   have n9_ := aM_ ((by rw [hg]; exact Nat.ne_of_gt (blk_lt BK384.out) : gb393 ≠ gb384))
   have n10_ := aM_ ((by rw [hg]; exact Nat.ne_of_lt (blk_lt BK385.out) : gb385 ≠ gb393))
   have n11_ := aM_ ((by rw [hg]; exact Nat.ne_of_gt (blk_lt BK385.out) : gb393 ≠ gb385))
   clear HO388
   clear HO392
   clear BK384
   clear BK385
   clear HB
   have HO388 := n0_
   have HO392 := n1_
   have BK384 := n2_
   have BK385 := n3_
   have HB := n4_
   have BK393 := n5_
   have GW393 := n6_
   have GE393 := n7_
   have NB384_393 := n8_
   have NB393_384 := n9_
   have NB385_393 := n10_
   have NB393_385 := n11_
   clear n0_ n1_ n2_ n3_ n4_ n5_ n6_ n7_ n8_ n9_ n10_ n11_
   clear hb hbox hg
   refine hK.out _ _ ((blk_cell BK384.out 0).trans rfl) (fun hHeld => ?_)
   clear hK K
   refine norm_ (a' := ?_) ?_ ?_; rotate_left; (show Act.put _ (some 5) _ = _; simp only [Act.put, sA_, sB_, sC_, i64_w, i32_w]; rfl)
   refine one_ (i := 6) (N := none) #[ty, ty, ty, ty, ty, ty, ty, fy] rfl rfl (one_of HT_.out (by kernel_rfl)) (by decide) (fun K hK => ?_)
   have hs14 : w13.cell? ⟨gb393, 0, none⟩ = some (.slice none 0 0) := (blk_cell BK393.out 0).trans rfl
   have hfs14 := blk_frozen BK393.out 0
   have hns14_0 := NB384_393.out
   have hns14_1 := NB385_393.out
   have hms14_0 := NB393_384.out
   have hms14_1 := NB393_385.out
   refine skip_ (w1 := ?_) (by rfl) rfl ?_ ?_
   rotate_left
   ·
    go_simp
    rfl
   refine hK.out _ _ (((cell_far (p := ⟨gb393, _, none⟩) NB384_393.out _).trans (hHeld))) (fun hHeld => ?_)
   clear hK K
   exact norm_ (by simp only [putAll, Act.put, sA_, sB_, sC_]) (hCont (v391, gb393) _ ⟨hHeld, (by exact Kd.R_mono (Kd.R_far (p := ⟨gb393, 0, none⟩) (Kd.R_types HO388.out BK393.out (by decide)) (fun _ hk => hk.2) (.slice none 0 0)) (fun _ hk => trivial)), (by exact Kd.R_mono (Kd.R_far (p := ⟨gb393, 0, none⟩) (Kd.R_types HO392.out BK393.out (by decide)) (fun _ hk => hk.2) (.slice none 0 0)) (fun _ hk => trivial)), (by refine blk_far ?_ NB384_393.out _; exact BK384.out), (by refine blk_far ?_ NB385_393.out _; exact BK385.out), (by refine blk_put (cs := #[.slice none 0 0]) ?_ 0 _ rfl; exact BK393.out), GW393.out, GE393.out, NB384_393.out, NB393_384.out, NB385_393.out, NB393_385.out, (by repeat (first | (with_reducible first | exact HB.out | apply below_alloc | apply pw_below_drewN | apply below_drew1 | refine below_set ?_ GE384.out | refine below_set ?_ GE385.out | refine below_set ?_ GE393.out) | exact HB.out))⟩)
  ·
   skip
   refine box_step ?hg (N := 5) ?hd (cs := #[.slice none 0 0]) (t := 29) ?hr ?_; (case hd => rfl); (case hg => rfl); (case hr => (go_simp; done))
   intro gb393 hg w11 hbox hb
   have n0_ := aM_ (Kd.R_below HO388.out hb)
   have n1_ := aM_ (blk_below BK384.out hb)
   have n2_ := aM_ (blk_below BK385.out hb)
   have n3_ := aM_ (below_step HB.out hb)
   have n4_ := aM_ (hbox)
   have n5_ := aM_ ((by rw [hg]; exact (below_size HB.out) : w.heap.size ≤ gb393))
   have n6_ := aM_ ((by rw [hg]; exact (below_size HB.out) : w.heap.size ≤ gb393))
   have n7_ := aM_ ((by rw [hg]; exact Nat.ne_of_lt (blk_lt BK384.out) : gb384 ≠ gb393))
   have n8_ := aM_ ((by rw [hg]; exact Nat.ne_of_gt (blk_lt BK384.out) : gb393 ≠ gb384))
   have n9_ := aM_ ((by rw [hg]; exact Nat.ne_of_lt (blk_lt BK385.out) : gb385 ≠ gb393))
   have n10_ := aM_ ((by rw [hg]; exact Nat.ne_of_gt (blk_lt BK385.out) : gb393 ≠ gb385))
   clear HO388
   clear BK384
   clear BK385
   clear HB
   have HO388 := n0_
   have BK384 := n1_
   have BK385 := n2_
   have HB := n3_
   have BK393 := n4_
   have GW393 := n5_
   have GE393 := n6_
   have NB384_393 := n7_
   have NB393_384 := n8_
   have NB385_393 := n9_
   have NB393_385 := n10_
   clear n0_ n1_ n2_ n3_ n4_ n5_ n6_ n7_ n8_ n9_ n10_
   clear hb hbox hg
   refine hK.out _ _ ((blk_cell BK384.out 0).trans rfl) (fun hHeld => ?_)
   clear hK K
   refine norm_ (a' := ?_) ?_ ?_; rotate_left; (show Act.put _ (some 5) _ = _; simp only [Act.put, sA_, sB_, sC_, i64_w, i32_w]; rfl)
   refine two_ (i := 4) (j := 6) (Ni := some 20) (Nj := none) #[ty, ty, ty, ty, ty, ty, fy, fy] #[ty, ty, ty, ty, fy, ty, ty, fy] rfl rfl rfl rfl (two_of HT_.out (by kernel_rfl)) (by decide) (by decide) (fun K hK => ?_) (fun K hK => ?_)
   ·
    skip
    refine Kd.R_make_step (Kd.int .i64) _ 3 (by rfl) (N := 20) rfl 75 _ _ rfl (l0_0.length : Int) rfl rfl Tryd.underlying75 (.int .i64 0) 8 info3 rfl (by decide) (by omega) 0 (ok := fun _ => True) (okp := fun _ => True) rfl (fun _ hk => hk) trivial (of_decide_eq_true (by (with_reducible assumption))) (Nat.le_trans (Nat.mul_le_mul_right _ (of_decide_eq_true (by (with_reducible assumption)) : (l0_0.length : Int).toNat ≤ 35184372088832)) (by omega)) (Below.refl _ _) (Nat.le_refl _) ?_
    intro v391 w12 ho13 hb hg_ hnew_
    clear hg_ hnew_
    (rw [← Ny390.out] at ho13)
    have n0_ := aM_ (Kd.R_below HO388.out hb)
    have n1_ := aM_ (Kd.R_lower ho13 (below_size HB.out))
    have n2_ := aM_ (blk_below BK384.out hb)
    have n3_ := aM_ (blk_below BK385.out hb)
    have n4_ := aM_ (blk_below BK393.out hb)
    have n5_ := aM_ (below_step HB.out hb)
    clear HO388
    clear BK384
    clear BK385
    clear BK393
    clear HB
    have HO388 := n0_
    have HO392 := n1_
    have BK384 := n2_
    have BK385 := n3_
    have BK393 := n4_
    have HB := n5_
    clear n0_ n1_ n2_ n3_ n4_ n5_
    clear hb ho13
    refine hK.out _ _ ((blk_cell BK384.out 0).trans rfl) (fun hHeld => ?_)
    clear hK K
    refine norm_ (a' := ?_) ?_ ?_; rotate_left; (show Act.put _ (some 20) _ = _; simp only [Act.put, sA_, sB_, sC_, i64_w, i32_w]; rfl)
    refine one_ (i := 6) (N := none) #[ty, ty, ty, ty, ty, ty, ty, fy] rfl rfl (one_of HT_.out (by kernel_rfl)) (by decide) (fun K hK => ?_)
    have hs14 : w12.cell? ⟨gb393, 0, none⟩ = some (.slice none 0 0) := (blk_cell BK393.out 0).trans rfl
    have hfs14 := blk_frozen BK393.out 0
    have hns14_0 := NB384_393.out
    have hns14_1 := NB385_393.out
    have hms14_0 := NB393_384.out
    have hms14_1 := NB393_385.out
    refine skip_ (w1 := ?_) (by rfl) rfl ?_ ?_
    rotate_left
    ·
     go_simp
     rfl
    refine hK.out _ _ (((cell_far (p := ⟨gb393, _, none⟩) NB384_393.out _).trans (hHeld))) (fun hHeld => ?_)
    clear hK K
    exact norm_ (by simp only [putAll, Act.put, sA_, sB_, sC_]) (hCont (v391, gb393) _ ⟨hHeld, (by exact Kd.R_mono (Kd.R_far (p := ⟨gb393, 0, none⟩) (Kd.R_types HO388.out BK393.out (by decide)) (fun _ hk => hk.2) (.slice none 0 0)) (fun _ hk => trivial)), (by exact Kd.R_mono (Kd.R_far (p := ⟨gb393, 0, none⟩) (Kd.R_types HO392.out BK393.out (by decide)) (fun _ hk => hk.2) (.slice none 0 0)) (fun _ hk => trivial)), (by refine blk_far ?_ NB384_393.out _; exact BK384.out), (by refine blk_far ?_ NB385_393.out _; exact BK385.out), (by refine blk_put (cs := #[.slice none 0 0]) ?_ 0 _ rfl; exact BK393.out), GW393.out, GE393.out, NB384_393.out, NB393_384.out, NB385_393.out, NB393_385.out, (by repeat (first | (with_reducible first | exact HB.out | apply below_alloc | apply pw_below_drewN | apply below_drew1 | refine below_set ?_ GE384.out | refine below_set ?_ GE385.out | refine below_set ?_ GE393.out) | exact HB.out))⟩)
   ·
    skip
    have hs12 : w11.cell? ⟨gb393, 0, none⟩ = some (.slice none 0 0) := (blk_cell BK393.out 0).trans rfl
    have hfs12 := blk_frozen BK393.out 0
    have hns12_0 := NB384_393.out
    have hns12_1 := NB385_393.out
    have hms12_0 := NB393_384.out
    have hms12_1 := NB393_385.out
    refine skip_ (w1 := ?_) (by rfl) rfl ?_ ?_
    rotate_left
    ·
     go_simp
     rfl
    refine hK.out _ _ (((cell_far (p := ⟨gb393, _, none⟩) NB384_393.out _).trans (hHeld))) (fun hHeld => ?_)
    clear hK K
    refine one_ (i := 4) (N := some 20) #[ty, ty, ty, ty, ty, ty, ty, fy] rfl rfl (one_of HT_.out (by kernel_rfl)) (by decide) (fun K hK => ?_)
    refine Kd.R_make_step (Kd.int .i64) _ 3 (by rfl) (N := 20) rfl 75 _ _ rfl (l0_0.length : Int) rfl rfl Tryd.underlying75 (.int .i64 0) 8 info3 rfl (by decide) (by omega) 0 (ok := fun _ => True) (okp := fun _ => True) rfl (fun _ hk => hk) trivial (of_decide_eq_true (by (with_reducible assumption))) (Nat.le_trans (Nat.mul_le_mul_right _ (of_decide_eq_true (by (with_reducible assumption)) : (l0_0.length : Int).toNat ≤ 35184372088832)) (by omega)) (Below.refl _ _) (Nat.le_refl _) ?_
    intro v391 w13 ho14 hb hg_ hnew_
    clear hg_ hnew_
    (rw [← Ny390.out] at ho14)
    have n0_ := aM_ (Kd.R_below (by exact (Kd.R_mono (Kd.R_far (p := ⟨gb393, 0, none⟩) (Kd.R_types HO388.out BK393.out (by decide)) (fun _ hk => hk.2) (.slice none 0 0)) (fun _ h_ => h_.1))) hb)
    have n1_ := aM_ (Kd.R_lower ho14 (below_size (by repeat (first | (with_reducible first | exact HB.out | apply below_alloc | apply pw_below_drewN | apply below_drew1 | refine below_set ?_ GE384.out | refine below_set ?_ GE385.out | refine below_set ?_ GE393.out) | exact HB.out))))
    have n2_ := aM_ (blk_below (g := gb384) (o := .cells #[.slice A0_0 l0_0.length c0_0] 44 (0, 0)) (by refine blk_far ?_ NB384_393.out _; exact BK384.out) hb)
    have n3_ := aM_ (blk_below (g := gb385) (o := .cells #[.slice none 0 0] 29 (0, 0)) (by refine blk_far ?_ NB385_393.out _; exact BK385.out) hb)
    have n4_ := aM_ (blk_below (g := gb393) (o := .cells #[.slice none 0 0] 29 (0, 0)) (by refine blk_put (cs := #[.slice none 0 0]) ?_ 0 _ rfl; exact BK393.out) hb)
    have n5_ := aM_ (below_step (by repeat (first | (with_reducible first | exact HB.out | apply below_alloc | apply pw_below_drewN | apply below_drew1 | refine below_set ?_ GE384.out | refine below_set ?_ GE385.out | refine below_set ?_ GE393.out) | exact HB.out)) hb)
    clear HO388
    clear BK384
    clear BK385
    clear BK393
    clear HB
    have HO388 := n0_
    have HO392 := n1_
    have BK384 := n2_
    have BK385 := n3_
    have BK393 := n4_
    have HB := n5_
    clear n0_ n1_ n2_ n3_ n4_ n5_
    clear hb ho14
    refine hK.out _ _ ((blk_cell BK384.out 0).trans rfl) (fun hHeld => ?_)
    clear hK K
    refine norm_ (a' := ?_) ?_ ?_; rotate_left; (show Act.put _ (some 20) _ = _; simp only [Act.put, sA_, sB_, sC_, i64_w, i32_w]; rfl)
    exact norm_ (by simp only [putAll, Act.put, sA_, sB_, sC_]) (hCont (v391, gb393) _ ⟨hHeld, HO388.out, HO392.out, BK384.out, BK385.out, BK393.out, GW393.out, GE393.out, NB384_393.out, NB393_384.out, NB385_393.out, NB393_385.out, HB.out⟩)
 rintro ⟨v391, gb393⟩ w15 ⟨hS_, h0_, h1_, h2_, h3_, h4_, h5_, h6_, h7_, h8_, h9_, h10_, h11_⟩
 have n0_ : Aside0 (Kd.R Kd.string 9 w15 w.heap.size (fun _ => True) v387 t386) := ⟨h0_⟩
 have n1_ : Aside0 (Kd.R (Kd.int .i64) 3 w15 w.heap.size (fun _ => True) v391 y390) := ⟨h1_⟩
 have n2_ : Aside0 (w15.heap[gb384]? = some (.cells #[.slice A0_0 l0_0.length c0_0] 44 (0, 0))) := ⟨h2_⟩
 have n3_ : Aside0 (w15.heap[gb385]? = some (.cells #[.slice none 0 0] 29 (0, 0))) := ⟨h3_⟩
 have n4_ : Aside0 (w15.heap[gb393]? = some (.cells #[.slice none 0 0] 29 (0, 0))) := ⟨h4_⟩
 have n5_ : Aside0 (w.heap.size ≤ gb393) := ⟨h5_⟩
 have n6_ : Aside0 (w.heap.size ≤ gb393) := ⟨h6_⟩
 have n7_ : Aside0 (gb384 ≠ gb393) := ⟨h7_⟩
 have n8_ : Aside0 (gb393 ≠ gb384) := ⟨h8_⟩
 have n9_ : Aside0 (gb385 ≠ gb393) := ⟨h9_⟩
 have n10_ : Aside0 (gb393 ≠ gb385) := ⟨h10_⟩
 have n11_ : Aside0 (Below w.heap.size w w15) := ⟨h11_⟩
 clear HO388
 clear BK384
 clear BK385
 clear HB
 clear h0_ h1_ h2_ h3_ h4_ h5_ h6_ h7_ h8_ h9_ h10_ h11_
 have HO388 := n0_
 have HO392 := n1_
 have BK384 := n2_
 have BK385 := n3_
 have BK393 := n4_
 have GW393 := n5_
 have GE393 := n6_
 have NB384_393 := n7_
 have NB393_384 := n8_
 have NB385_393 := n9_
 have NB393_385 := n10_
 have HB := n11_
 clear n0_ n1_ n2_ n3_ n4_ n5_ n6_ n7_ n8_ n9_ n10_ n11_
 have hHeld : w15.cell? ⟨gb384, 0, none⟩ = some (.slice A0_0 l0_0.length c0_0) := hS_
 refine norm_ (a' := ?_) ?_ ?_
 rotate_left
 ·
  simp only [putAll, Act.put, sA_, sB_, sC_]
  rfl
 refine pure_ (i := 7) (N := some 6) (v := ?_) (a' := ?_) #[ty, ty, ty, ty, ty, ty, ty, ty] rfl rfl (any_of HT_.out (by kernel_rfl)) (fun _ _ _ h => h) (Or.inl ⟨by rfl, ?_⟩) ?_ ?_; rotate_left; (intro w'; go_simp; with_reducible rfl); rotate_left; (simp only [Act.put, sA_, sB_, sC_, i64_w, i32_w]; rfl)
 refine done_ (done_of HT_.out (by kernel_rfl)) ?_
 have hnb16 := NB384_393.out
 have hnc16 := NB393_384.out
 have hcz17_0 : w15.cell? ⟨gb384, 0, none⟩ = some (.slice A0_0 l0_0.length c0_0) := (blk_cell BK384.out 0).trans rfl
 have hfz17_0 := blk_frozen BK384.out 0
 try go_wp2
 go_loopg [24] k (fun kq v24 w' => ∃ (x6_1 : List Int) (x24_1 : Int) (x394000_1 : List (S56)) (u394000 : Value), v24 = .int .i64 x24_1 ∧ Aside0 (impl_Trie_press.l0 kq t386 x6_1 l0_0 (l0_0.length : Int) x24_1 l0_0 x394000_1 = some r) ∧ Aside0 (kq ≤ k) ∧ Aside0 (Kd.R Kd.string 9 w' w.heap.size (fun _ => True) v387 t386) ∧ Aside0 (Kd.R (Kd.int .i64) 3 w' w.heap.size (fun _ => True) v391 x6_1) ∧ Aside0 (Kd.R k56 56 w' w.heap.size (fun _ => True) u394000 x394000_1) ∧ Aside0 (w'.heap[gb384]? = some (.cells #[(.slice A0_0 l0_0.length c0_0)] 44 (0, 0))) ∧ Aside0 (w'.heap[gb385]? = some (.cells #[(.slice none 0 0)] 29 (0, 0))) ∧ Aside0 (w'.heap[gb393]? = some (.cells #[u394000] 29 (0, 0))) ∧ Aside0 (Below w.heap.size w w'))
 case atStart => exact ⟨(y390), (0), (([] : List (S56))), (.slice none 0 0), (by rfl), H', ⟨Nat.le_refl _⟩, ⟨HO388.out⟩, ⟨HO392.out⟩, ⟨by exact Kd.R_nil _ _ _ _ _⟩, ⟨BK384.out⟩, ⟨BK385.out⟩, ⟨BK393.out⟩, ⟨HB.out⟩⟩
 case round =>
  clear H'
  try clear c1
  try clear p2
  try clear c3
  try clear c3b0
  try clear c3b1
  try clear c4
  try clear c4b0
  try clear c4b1
  try clear c5
  try clear c7
  try clear c16
  try clear hcz17_0
  try clear hcz8_0
  try clear hfz17_0
  try clear hfz8_0
  obtain ⟨x6_1, x24_1, x394000_1, u394000, rfl, HA, HK1, HO_3, HO_6, HO_394000, BK384, BK385, BK393, HB⟩ := hrel
  cases gk with
  | zero => exact absurd HA.out (by simp [impl_Trie_press.l0])
  | succ k1 =>
   have H := HA.out
   clear HA
   simp only [impl_Trie_press.l0] at H
   by_cases c18 : x24_1 < (l0_0.length : Int)
   ·
    rw [if_pos c18] at H
    have c18b0 := decide_eq_true c18
    clear c18
    by_cases c19 : 0 ≤ x24_1
    ·
     rw [if_pos c19] at H
     have c19b0 := decide_eq_true c19
     clear c19
     by_cases c20 : x24_1 < (l0_0.length : Int)
     ·
      rw [if_pos c20] at H
      have c20b0 := decide_eq_true c20
      clear c20
      replace H := Option.bind_eq_some_iff.mp H
      obtain ⟨t396, A210, H⟩ := H
      try dsimp only at H
      have A21 := aM_ A210
      clear A210
      by_cases c22 : t396 = true
      ·
       subst c22
       rw [if_pos rfl] at H
       by_cases c23 : x24_1 > 0
       ·
        rw [if_pos c23] at H
        have c23b0 := decide_eq_true c23
        clear c23
        have H' := aM_ H
        clear H
        have p394 : 0 ≤ (x24_1 : Int) := of_decide_eq_true (by (with_reducible assumption))
        have q394 : x24_1 < (l0_0.length : Int) := of_decide_eq_true (by (with_reducible assumption))
        obtain ⟨ad394, e394, hx394_0, hx394_1, hx394_2⟩ := at_T73 HR0_0.out x24_1 p394 q394
        cases e394
        replace hx394_0 := (HB.out.cell (World.block_lt_of_cell? w _ hx394_0)).trans hx394_0
        replace hx394_1 := (HB.out.cell (World.block_lt_of_cell? w _ hx394_1)).trans hx394_1
        replace hx394_2 := (HB.out.cell (World.block_lt_of_cell? w _ hx394_2)).trans hx394_2
        replace p394 := eq_true p394
        replace q394 := eq_true q394
        go_wp2_with (first | ((with_reducible refine gate_dst (N := 8) rfl ?_); refine box_event ?hg (N := 8) ?hd (cs := #[.int .i64 0, .int .i64 0, .bool false]) (t := 73) ?hr ?_; (case hd => rfl); (case hg => rfl); (case hr => (go_simp; done)); intro gb395 hg w24 hbox hb; replace HO_3 := aM_ (Kd.R_below HO_3.out hb); replace HO_6 := aM_ (Kd.R_below HO_6.out hb); replace HO_394000 := aM_ (Kd.R_below HO_394000.out hb); have BK395 := aM_ (hbox); have GW395 := aM_ ((by rw [hg]; exact (below_size HB.out) : w.heap.size ≤ gb395)); have GE395 := GW395; replace HB := aM_ (below_step HB.out hb); have NB384_395 := aM_ ((by rw [hg]; exact Nat.ne_of_lt (blk_lt BK384.out) : gb384 ≠ gb395)); have NB395_384 := aM_ NB384_395.out.symm; replace BK384 := aM_ (blk_below BK384.out hb); have NB385_395 := aM_ ((by rw [hg]; exact Nat.ne_of_lt (blk_lt BK385.out) : gb385 ≠ gb395)); have NB395_385 := aM_ NB385_395.out.symm; replace BK385 := aM_ (blk_below BK385.out hb); have NB393_395 := aM_ ((by rw [hg]; exact Nat.ne_of_lt (blk_lt BK393.out) : gb393 ≠ gb395)); have NB395_393 := aM_ NB393_395.out.symm; replace BK393 := aM_ (blk_below BK393.out hb); clear hb hbox hg; have hnb25 := NB395_384.out; have hnc25 := NB384_395.out; have hnb26 := NB395_385.out; have hnc26 := NB385_395.out; have hnb27 := NB395_393.out; have hnc27 := NB393_395.out; have hcz28_0 : w24.cell? ⟨gb395, 0, none⟩ = some (.int .i64 0) := (blk_cell BK395.out 0).trans rfl; have hcz28_1 : w24.cell? ⟨gb395, 1, none⟩ = some (.int .i64 0) := (blk_cell BK395.out 1).trans rfl; have hcz28_2 : w24.cell? ⟨gb395, 2, none⟩ = some (.bool false) := (blk_cell BK395.out 2).trans rfl; have hfz28_0 := blk_frozen BK395.out 0; have hfz28_1 := blk_frozen BK395.out 1; have hfz28_2 := blk_frozen BK395.out 2; have hnb29 := NB384_385.out; have hnc29 := NB385_384.out; have hnb30 := NB384_393.out; have hnc30 := NB393_384.out; have hcz31_0 : w24.cell? ⟨gb384, 0, none⟩ = some (.slice (some ad394) l0_0.length c0_0) := (blk_cell BK384.out 0).trans rfl; have hfz31_0 := blk_frozen BK384.out 0) | ((with_reducible refine gate_callee (f := 57) rfl ?_); refine goesL_ (some 31) rfl rfl Tryd.func57 (by kernel_rfl) rfl #[.agg #[.slice (some ad394) l0_0.length c0_0], .int .i64 x24_1] rfl (by (try simp only [sD_, sE_, sF_]); rfl) ?_; (with_reducible refine (impl_Trie_stays.calls k1 _ _ l0_0 x24_1 true _ ?side1 ?side2 A21.out).mono ?_); (case side1 => exact Kd.C_below HR0_0.out (by repeat (first | (with_reducible first | exact HB.out | apply below_alloc | apply pw_below_drewN | apply below_drew1 | refine below_set ?_ GE384.out | refine below_set ?_ GE385.out | refine below_set ?_ GE393.out | refine below_set ?_ GE395.out) | exact HB.out))); (case side2 => exact HC0_0.out); rintro e w32 ⟨rfl, hb⟩; refine ⟨_, rfl, ?_⟩; replace HO_3 := aM_ (Kd.R_below (by exact (Kd.R_mono (Kd.R_far (p := ⟨gb395, 2, none⟩) (Kd.R_far (p := ⟨gb395, 1, none⟩) (Kd.R_far (p := ⟨gb395, 0, none⟩) (Kd.R_types HO_3.out BK395.out (by decide)) (fun _ hk => hk.2) (.int .i64 ((rd_T73 l0_0 x24_1).f0))) (fun _ hk => hk.2) (.int .i64 ((rd_T73 l0_0 x24_1).f1))) (fun _ hk => hk.2) (.bool ((rd_T73 l0_0 x24_1).f2))) (fun _ h_ => h_.1))) hb); replace HO_6 := aM_ (Kd.R_below (by exact (Kd.R_mono (Kd.R_far (p := ⟨gb395, 2, none⟩) (Kd.R_far (p := ⟨gb395, 1, none⟩) (Kd.R_far (p := ⟨gb395, 0, none⟩) (Kd.R_types HO_6.out BK395.out (by decide)) (fun _ hk => hk.2) (.int .i64 ((rd_T73 l0_0 x24_1).f0))) (fun _ hk => hk.2) (.int .i64 ((rd_T73 l0_0 x24_1).f1))) (fun _ hk => hk.2) (.bool ((rd_T73 l0_0 x24_1).f2))) (fun _ h_ => h_.1))) hb); replace HO_394000 := aM_ (Kd.R_below (by exact (Kd.R_mono (Kd.R_far (p := ⟨gb395, 2, none⟩) (Kd.R_far (p := ⟨gb395, 1, none⟩) (Kd.R_far (p := ⟨gb395, 0, none⟩) (Kd.R_types HO_394000.out BK395.out (by decide)) (fun _ hk => hk.2) (.int .i64 ((rd_T73 l0_0 x24_1).f0))) (fun _ hk => hk.2) (.int .i64 ((rd_T73 l0_0 x24_1).f1))) (fun _ hk => hk.2) (.bool ((rd_T73 l0_0 x24_1).f2))) (fun _ h_ => h_.1))) hb); replace BK384 := aM_ (blk_below (g := gb384) (o := .cells #[.slice (some ad394) l0_0.length c0_0] 44 (0, 0)) (by refine blk_far ?_ NB384_395.out _; refine blk_far ?_ NB384_395.out _; refine blk_far ?_ NB384_395.out _; exact BK384.out) hb); replace BK385 := aM_ (blk_below (g := gb385) (o := .cells #[.slice none 0 0] 29 (0, 0)) (by refine blk_far ?_ NB385_395.out _; refine blk_far ?_ NB385_395.out _; refine blk_far ?_ NB385_395.out _; exact BK385.out) hb); replace BK393 := aM_ (blk_below (g := gb393) (o := .cells #[u394000] 29 (0, 0)) (by refine blk_far ?_ NB393_395.out _; refine blk_far ?_ NB393_395.out _; refine blk_far ?_ NB393_395.out _; exact BK393.out) hb); replace BK395 := aM_ (blk_below (g := gb395) (o := .cells #[.int .i64 ((rd_T73 l0_0 x24_1).f0), .int .i64 ((rd_T73 l0_0 x24_1).f1), .bool ((rd_T73 l0_0 x24_1).f2)] 73 (0, 0)) (by refine blk_put (cs := #[.int .i64 ((rd_T73 l0_0 x24_1).f0), .int .i64 ((rd_T73 l0_0 x24_1).f1), .bool false]) ?_ 2 _ rfl; refine blk_put (cs := #[.int .i64 ((rd_T73 l0_0 x24_1).f0), .int .i64 0, .bool false]) ?_ 1 _ rfl; refine blk_put (cs := #[.int .i64 0, .int .i64 0, .bool false]) ?_ 0 _ rfl; exact BK395.out) hb); replace HB := aM_ (below_step (by repeat (first | (with_reducible first | exact HB.out | apply below_alloc | apply pw_below_drewN | apply below_drew1 | refine below_set ?_ GE384.out | refine below_set ?_ GE385.out | refine below_set ?_ GE393.out | refine below_set ?_ GE395.out) | exact HB.out)) hb); (try clear hb); (try clear hb2); (try clear hk); (try clear hi); have hcz33_0 : w32.cell? ⟨gb395, 0, none⟩ = some (.int .i64 ((rd_T73 l0_0 x24_1).f0)) := (blk_cell BK395.out 0).trans rfl; have hcz33_1 : w32.cell? ⟨gb395, 1, none⟩ = some (.int .i64 ((rd_T73 l0_0 x24_1).f1)) := (blk_cell BK395.out 1).trans rfl; have hcz33_2 : w32.cell? ⟨gb395, 2, none⟩ = some (.bool ((rd_T73 l0_0 x24_1).f2)) := (blk_cell BK395.out 2).trans rfl; have hfz33_0 := blk_frozen BK395.out 0; have hfz33_1 := blk_frozen BK395.out 1; have hfz33_2 := blk_frozen BK395.out 2) | ((with_reducible refine gate_dst (N := 9) rfl ?_); refine box_event ?hg (N := 9) ?hd (cs := #[.string (⟨#[]⟩ : ByteArray), .int .i64 0, .bool false]) (t := 56) ?hr ?_; (case hd => rfl); (case hg => rfl); (case hr => (go_simp; done)); intro gb397 hg w34 hbox hb; replace HO_3 := aM_ (Kd.R_below HO_3.out hb); replace HO_6 := aM_ (Kd.R_below HO_6.out hb); replace HO_394000 := aM_ (Kd.R_below (Kd.R_elderB HO_394000.out gb397 (Nat.le_of_eq hg.symm)) hb); have BK397 := aM_ (hbox); have GW397 := aM_ ((by rw [hg]; exact (below_size HB.out) : w.heap.size ≤ gb397)); have GE397 := GW397; replace HB := aM_ (below_step HB.out hb); have NB384_397 := aM_ ((by rw [hg]; exact Nat.ne_of_lt (blk_lt BK384.out) : gb384 ≠ gb397)); have NB397_384 := aM_ NB384_397.out.symm; replace BK384 := aM_ (blk_below BK384.out hb); have NB385_397 := aM_ ((by rw [hg]; exact Nat.ne_of_lt (blk_lt BK385.out) : gb385 ≠ gb397)); have NB397_385 := aM_ NB385_397.out.symm; replace BK385 := aM_ (blk_below BK385.out hb); have NB393_397 := aM_ ((by rw [hg]; exact Nat.ne_of_lt (blk_lt BK393.out) : gb393 ≠ gb397)); have NB397_393 := aM_ NB393_397.out.symm; replace BK393 := aM_ (blk_below BK393.out hb); have NB395_397 := aM_ ((by rw [hg]; exact Nat.ne_of_lt (blk_lt BK395.out) : gb395 ≠ gb397)); have NB397_395 := aM_ NB395_397.out.symm; replace BK395 := aM_ (blk_below BK395.out hb); clear hb hbox hg; have hnb35 := NB397_384.out; have hnc35 := NB384_397.out; have hnb36 := NB397_385.out; have hnc36 := NB385_397.out; have hnb37 := NB397_393.out; have hnc37 := NB393_397.out; have hnb38 := NB397_395.out; have hnc38 := NB395_397.out; have hcz39_0 : w34.cell? ⟨gb397, 0, none⟩ = some (.string (⟨#[]⟩ : ByteArray)) := (blk_cell BK397.out 0).trans rfl; have hcz39_1 : w34.cell? ⟨gb397, 1, none⟩ = some (.int .i64 0) := (blk_cell BK397.out 1).trans rfl; have hcz39_2 : w34.cell? ⟨gb397, 2, none⟩ = some (.bool false) := (blk_cell BK397.out 2).trans rfl; have hfz39_0 := blk_frozen BK397.out 0; have hfz39_1 := blk_frozen BK397.out 1; have hfz39_2 := blk_frozen BK397.out 2; have hcz40_0 : w34.cell? ⟨gb395, 0, none⟩ = some (.int .i64 ((rd_T73 l0_0 x24_1).f0)) := (blk_cell BK395.out 0).trans rfl; have hcz40_1 : w34.cell? ⟨gb395, 1, none⟩ = some (.int .i64 ((rd_T73 l0_0 x24_1).f1)) := (blk_cell BK395.out 1).trans rfl; have hcz40_2 : w34.cell? ⟨gb395, 2, none⟩ = some (.bool ((rd_T73 l0_0 x24_1).f2)) := (blk_cell BK395.out 2).trans rfl; have hfz40_0 := blk_frozen BK395.out 0; have hfz40_1 := blk_frozen BK395.out 1; have hfz40_2 := blk_frozen BK395.out 2))
        go_loopg [10] k1 (fun kq v10 w' => ∃ (x10_2 : Int), v10 = .int .i64 x10_2 ∧ Aside0 (impl_Trie_press.l1 kq t386 x6_1 x24_1 x10_2 l0_0 (l0_0.length : Int) x24_1 l0_0 x394000_1 (⟨#[]⟩ : ByteArray) (-1) ((rd_T73 l0_0 x24_1).f2) = some r) ∧ Aside0 (kq ≤ k1) ∧ Aside0 (Kd.R Kd.string 9 w' w.heap.size (fun _ => True) v387 t386) ∧ Aside0 (Kd.R (Kd.int .i64) 3 w' w.heap.size (fun _ => True) v391 x6_1) ∧ Aside0 (Kd.R k56 56 w' w.heap.size (fun k_ => k_ ≠ gb397) u394000 x394000_1) ∧ Aside0 (w'.heap[gb384]? = some (.cells #[(.slice (some ad394) l0_0.length c0_0)] 44 (0, 0))) ∧ Aside0 (w'.heap[gb385]? = some (.cells #[(.slice none 0 0)] 29 (0, 0))) ∧ Aside0 (w'.heap[gb393]? = some (.cells #[u394000] 29 (0, 0))) ∧ Aside0 (w'.heap[gb395]? = some (.cells #[.int .i64 ((rd_T73 l0_0 x24_1).f0), .int .i64 ((rd_T73 l0_0 x24_1).f1), .bool ((rd_T73 l0_0 x24_1).f2)] 73 (0, 0))) ∧ Aside0 (w'.heap[gb397]? = some (.cells #[.string (⟨#[]⟩ : ByteArray), .int .i64 (-1), .bool ((rd_T73 l0_0 x24_1).f2)] 56 (0, 0))) ∧ Aside0 (Below w.heap.size w w'))
        case atStart => exact ⟨((rd_T73 l0_0 x24_1).f1), (by rfl), H', ⟨Nat.le_refl _⟩, ⟨by exact Kd.R_mono (Kd.R_far (p := ⟨gb397, 2, none⟩) (Kd.R_far (p := ⟨gb397, 1, none⟩) (Kd.R_far (p := ⟨gb397, 0, none⟩) (Kd.R_types HO_3.out BK397.out (by decide)) (fun _ hk => hk.2) (.string (⟨#[]⟩ : ByteArray))) (fun _ hk => hk.2) (.int .i64 (-1))) (fun _ hk => hk.2) (.bool ((rd_T73 l0_0 x24_1).f2))) (fun _ hk => trivial)⟩, ⟨by exact Kd.R_mono (Kd.R_far (p := ⟨gb397, 2, none⟩) (Kd.R_far (p := ⟨gb397, 1, none⟩) (Kd.R_far (p := ⟨gb397, 0, none⟩) (Kd.R_types HO_6.out BK397.out (by decide)) (fun _ hk => hk.2) (.string (⟨#[]⟩ : ByteArray))) (fun _ hk => hk.2) (.int .i64 (-1))) (fun _ hk => hk.2) (.bool ((rd_T73 l0_0 x24_1).f2))) (fun _ hk => trivial)⟩, ⟨by exact Kd.R_mono (Kd.R_far (p := ⟨gb397, 2, none⟩) (Kd.R_far (p := ⟨gb397, 1, none⟩) (Kd.R_far (p := ⟨gb397, 0, none⟩) (Kd.R_mono HO_394000.out (fun k_ hk => (⟨hk, hk.2⟩ : _ ∧ k_ ≠ gb397))) (fun _ hk => hk.2) (.string (⟨#[]⟩ : ByteArray))) (fun _ hk => hk.2) (.int .i64 (-1))) (fun _ hk => hk.2) (.bool ((rd_T73 l0_0 x24_1).f2))) (fun _ hk => hk.1.2)⟩, ⟨by refine blk_far ?_ NB384_397.out _; refine blk_far ?_ NB384_397.out _; refine blk_far ?_ NB384_397.out _; exact BK384.out⟩, ⟨by refine blk_far ?_ NB385_397.out _; refine blk_far ?_ NB385_397.out _; refine blk_far ?_ NB385_397.out _; exact BK385.out⟩, ⟨by refine blk_far ?_ NB393_397.out _; refine blk_far ?_ NB393_397.out _; refine blk_far ?_ NB393_397.out _; exact BK393.out⟩, ⟨by refine blk_far ?_ NB395_397.out _; refine blk_far ?_ NB395_397.out _; refine blk_far ?_ NB395_397.out _; exact BK395.out⟩, ⟨by refine blk_put (cs := #[.string (⟨#[]⟩ : ByteArray), .int .i64 (-1), .bool false]) ?_ 2 _ rfl; refine blk_put (cs := #[.string (⟨#[]⟩ : ByteArray), .int .i64 0, .bool false]) ?_ 1 _ rfl; refine blk_put (cs := #[.string (⟨#[]⟩ : ByteArray), .int .i64 0, .bool false]) ?_ 0 _ rfl; exact BK397.out⟩, ⟨by repeat (first | (with_reducible first | exact HB.out | apply below_alloc | apply pw_below_drewN | apply below_drew1 | refine below_set ?_ GE384.out | refine below_set ?_ GE385.out | refine below_set ?_ GE393.out | refine below_set ?_ GE395.out | refine below_set ?_ GE397.out) | exact HB.out)⟩⟩
        case round =>
         clear H'
         try clear c1
         try clear c2
         try clear p2
         try clear c3
         try clear c3b0
         try clear c3b1
         try clear p3
         try clear q3
         try clear hx3
         try clear c4
         try clear c4b0
         try clear c4b1
         try clear c5
         try clear p6
         try clear c7
         try clear c16
         try clear c18
         try clear c18b0
         try clear c19
         try clear c19b0
         try clear c20
         try clear c20b0
         try clear c22
         try clear c23
         try clear c23b0
         try clear c25
         try clear c26
         try clear c27
         try clear c29
         try clear c30
         try clear c35
         try clear c36
         try clear c37
         try clear c38
         try clear p39
         try clear q39
         try clear hx39
         try clear hcz17_0
         try clear hcz28_0
         try clear hcz28_1
         try clear hcz28_2
         try clear hcz31_0
         try clear hcz33_0
         try clear hcz33_1
         try clear hcz33_2
         try clear hcz39_0
         try clear hcz39_1
         try clear hcz39_2
         try clear hcz40_0
         try clear hcz40_1
         try clear hcz40_2
         try clear hcz8_0
         try clear hfz17_0
         try clear hfz28_0
         try clear hfz28_1
         try clear hfz28_2
         try clear hfz31_0
         try clear hfz33_0
         try clear hfz33_1
         try clear hfz33_2
         try clear hfz39_0
         try clear hfz39_1
         try clear hfz39_2
         try clear hfz40_0
         try clear hfz40_1
         try clear hfz40_2
         try clear hfz8_0
         try clear hx394_0
         try clear hx394_1
         try clear hx394_2
         try clear p2
         try clear p394
         try clear q394
         obtain ⟨x10_2, rfl, HA, HK2, HO_3, HO_6, HO_394000, BK384, BK385, BK393, BK395, BK397, HB⟩ := hrel
         cases gk with
         | zero => exact absurd HA.out (by simp [impl_Trie_press.l1])
         | succ k2 =>
          have H := HA.out
          clear HA
          simp only [impl_Trie_press.l1] at H
          replace H := Option.bind_eq_some_iff.mp H
          obtain ⟨t398, A410, H⟩ := H
          try dsimp only at H
          have A41 := aM_ A410
          clear A410
          by_cases c42 : t398 = true
          ·
           subst c42
           rw [if_pos rfl] at H
           by_cases c43 : 0 ≤ x24_1
           ·
            rw [if_pos c43] at H
            have c43b0 := decide_eq_true c43
            clear c43
            by_cases c44 : x24_1 < (t386.length : Int)
            ·
             rw [if_pos c44] at H
             have c44b0 := decide_eq_true c44
             clear c44
             by_cases c45 : 0 ≤ x10_2
             ·
              rw [if_pos c45] at H
              have c45b0 := decide_eq_true c45
              clear c45
              by_cases c46 : x10_2 < (t386.length : Int)
              ·
               rw [if_pos c46] at H
               have c46b0 := decide_eq_true c46
               clear c46
               by_cases c47 : 0 ≤ ((rdOf ByteArray.empty t386 x10_2).size : Int)
               ·
                rw [if_pos c47] at H
                have c47b0 := eq_true c47
                have c47b1 := decide_eq_true c47
                clear c47
                by_cases c48 : ((rdOf ByteArray.empty t386 x10_2).size : Int) ≤ ((rdOf ByteArray.empty t386 x24_1).size : Int)
                ·
                 rw [if_pos c48] at H
                 have c48b0 := eq_true c48
                 have c48b1 := decide_eq_true c48
                 clear c48
                 by_cases c49 : x10_2 < (x6_1.length : Int)
                 ·
                  rw [if_pos c49] at H
                  have c49b0 := decide_eq_true c49
                  clear c49
                  by_cases c50 : x24_1 < (x6_1.length : Int)
                  ·
                   rw [if_pos c50] at H
                   have c50b0 := decide_eq_true c50
                   clear c50
                   obtain ⟨y402, hy402⟩ : ∃ y_ : List Int, y_ = (x6_1.set (x24_1 : Int).toNat (x394000_1.length : Int)) := ⟨_, rfl⟩
                   replace H : (if x394000_1.length < 4398046511104 then (impl_Trie_press.l0 k2 t386 y402 l0_0 (l0_0.length : Int) (wrap64 (x24_1 + 1)) l0_0 (x394000_1 ++ [(⟨(rdOf ByteArray.empty t386 x24_1).extract (((rdOf ByteArray.empty t386 x10_2).size : Int) : Int).toNat (rdOf ByteArray.empty t386 x24_1).size, rd x6_1 x10_2, ((rd_T73 l0_0 x24_1).f2)⟩ : S56)])) else (none)) = some r := by first | (rw [hy402]; with_reducible exact H) | (have H2_ := (Option.bind_some _ _).symm.trans H; rw [hy402]; with_reducible exact H2_) | (have H2_ := (Option.bind_some _ _).symm.trans H; with_reducible exact H2_) | with_reducible exact H | (rw [hy402]; exact H) | exact H
                   have Ny402 := aM_ hy402
                   clear hy402
                   by_cases c52 : x394000_1.length < 4398046511104
                   ·
                    rw [if_pos c52] at H
                    have LMc52 := aM_ c52
                    clear c52
                    obtain ⟨y403, hy403⟩ : ∃ y_ : List (S56), y_ = (x394000_1 ++ [(⟨(rdOf ByteArray.empty t386 x24_1).extract (((rdOf ByteArray.empty t386 x10_2).size : Int) : Int).toNat (rdOf ByteArray.empty t386 x24_1).size, rd x6_1 x10_2, ((rd_T73 l0_0 x24_1).f2)⟩ : S56)]) := ⟨_, rfl⟩
                    replace H : (impl_Trie_press.l0 k2 t386 y402 l0_0 (l0_0.length : Int) (wrap64 (x24_1 + 1)) l0_0 y403) = some r := by first | (rw [hy403]; with_reducible exact H) | (have H2_ := (Option.bind_some _ _).symm.trans H; rw [hy403]; with_reducible exact H2_) | (have H2_ := (Option.bind_some _ _).symm.trans H; with_reducible exact H2_) | with_reducible exact H | (rw [hy403]; exact H) | exact H
                    have Ny403 := aM_ hy403
                    clear hy403
                    have H' := aM_ H
                    clear H
                    have hnb53 := NB384_385.out
                    have hnc53 := NB385_384.out
                    have hnb54 := NB384_393.out
                    have hnc54 := NB393_384.out
                    have hnb55 := NB384_395.out
                    have hnc55 := NB395_384.out
                    have hnb56 := NB384_397.out
                    have hnc56 := NB397_384.out
                    have hcz57_0 : wr.cell? ⟨gb384, 0, none⟩ = some (.slice (some ad394) l0_0.length c0_0) := (blk_cell BK384.out 0).trans rfl
                    have hfz57_0 := blk_frozen BK384.out 0
                    try go_wp2_with (first | ((with_reducible refine gate_callee (f := 57) rfl ?_); refine goesL_ (some 42) rfl rfl Tryd.func57 (by kernel_rfl) rfl #[.agg #[.slice (some ad394) l0_0.length c0_0], .int .i64 x10_2] rfl (by (try simp only [sD_, sE_, sF_]); rfl) ?_; (with_reducible refine (impl_Trie_stays.calls k2 _ _ l0_0 x10_2 true _ ?side1 ?side2 A41.out).mono ?_); (case side1 => repeat (first | exact (Kd.C_below HR0_0.out HB.out) | (with_reducible refine Kd.C_alloc ?_ _) | (with_reducible refine Kd.C_drewN ?_ _) | (with_reducible refine Kd.C_drew ?_))); (case side2 => exact HC0_0.out); rintro e w58 ⟨rfl, hb⟩; refine ⟨_, rfl, ?_⟩; replace HO_3 := aM_ (Kd.R_below HO_3.out hb); replace HO_6 := aM_ (Kd.R_below HO_6.out hb); replace HO_394000 := aM_ (Kd.R_below HO_394000.out hb); replace BK384 := aM_ (blk_below BK384.out hb); replace BK385 := aM_ (blk_below BK385.out hb); replace BK393 := aM_ (blk_below BK393.out hb); replace BK395 := aM_ (blk_below BK395.out hb); replace BK397 := aM_ (blk_below (g := gb397) (o := .cells #[.string (⟨#[]⟩ : ByteArray), .int .i64 (-1), .bool ((rd_T73 l0_0 x24_1).f2)] 56 (0, 0)) BK397.out hb); replace HB := aM_ (below_step HB.out hb); (try clear hb); (try clear hb2); (try clear hk); (try clear hi)))
                    have n0_ := aM_ (Kd.R_drew HO_3.out)
                    have n1_ := aM_ (Kd.R_drew HO_6.out)
                    have n2_ := aM_ (Kd.R_drew HO_394000.out)
                    have n3_ := aM_ (blk_drew BK384.out)
                    have n4_ := aM_ (blk_drew BK385.out)
                    have n5_ := aM_ (blk_drew BK393.out)
                    have n6_ := aM_ (blk_drew BK395.out)
                    have n7_ := aM_ (blk_drew BK397.out)
                    have n8_ := aM_ (below_drew1 HB.out)
                    clear HO_3
                    clear HO_6
                    clear HO_394000
                    clear BK384
                    clear BK385
                    clear BK393
                    clear BK395
                    clear BK397
                    clear HB
                    have HO_3 := n0_
                    have HO_6 := n1_
                    have HO_394000 := n2_
                    have BK384 := n3_
                    have BK385 := n4_
                    have BK393 := n5_
                    have BK395 := n6_
                    have BK397 := n7_
                    have HB := n8_
                    clear n0_ n1_ n2_ n3_ n4_ n5_ n6_ n7_ n8_
                    obtain ⟨Ao60, co60, eo60⟩ := Kd.R_slice HO_3.out
                    (subst eo60)
                    have p399 : 0 ≤ (x24_1 : Int) := of_decide_eq_true (by (with_reducible assumption))
                    have q399 : x24_1 < (t386.length : Int) := of_decide_eq_true (by (with_reducible assumption))
                    obtain ⟨ad399, e399, hx399_0⟩ := Kd.at_string (Kd.R_reads' HO_3.out).2.2 x24_1 p399 q399
                    cases e399
                    replace p399 := eq_true p399
                    replace q399 := eq_true q399
                    have p400 : 0 ≤ (x10_2 : Int) := of_decide_eq_true (by (with_reducible assumption))
                    have q400 : x10_2 < (t386.length : Int) := of_decide_eq_true (by (with_reducible assumption))
                    obtain ⟨ad400, e400, hx400_0⟩ := Kd.at_string (Kd.R_reads' HO_3.out).2.2 x10_2 p400 q400
                    obtain rfl : ad399 = ad400 := (by injection e400)
                    replace p400 := eq_true p400
                    replace q400 := eq_true q400
                    obtain ⟨Ao61, co61, eo61⟩ := Kd.R_slice HO_6.out
                    (subst eo61)
                    have p401 : 0 ≤ (x10_2 : Int) := of_decide_eq_true (by (with_reducible assumption))
                    have q401 : x10_2 < (x6_1.length : Int) := of_decide_eq_true (by (with_reducible assumption))
                    obtain ⟨ad401, e401, hx401_0⟩ := Kd.at_int (Kd.R_reads' HO_6.out).2.2 x10_2 p401 q401
                    cases e401
                    replace p401 := eq_true p401
                    replace q401 := eq_true q401
                    refine start_ (n := 18) (S := fun w' => w'.cell? (ad399.add (x24_1).toNat) = some (.string (rdOf ByteArray.empty t386 x24_1)) ∧ w'.cell? (ad399.add (x10_2).toNat) = some (.string (rdOf ByteArray.empty t386 x10_2)) ∧ w'.cell? (ad401.add (x10_2).toNat) = some (.int .i64 (rd x6_1 x10_2))) (ds := []) #[fy, fy, fy, fy, fy, fy, fy, fy, fy, fy, fy, fy, fy, fy, fy, fy, fy, fy] (by kernel_rfl) rfl rfl ⟨hx399_0, hx400_0, hx401_0⟩ (fun hHeld => ?_); refine with_tabW impl_Trie_press.tab12 impl_Trie_press.bits12 (fun HT_ HW_ => ?_)
                    generalize w58.drew = w59 at HO_3 HO_6 HO_394000 BK384 BK385 BK393 BK395 BK397 HB hx399_0 hx400_0 hx401_0 hHeld ⊢
                    refine pure_ (i := 0) (N := some 50) (v := ?_) (a' := ?_) #[ty, fy, fy, fy, fy, fy, fy, fy, fy, fy, fy, fy, fy, fy, fy, fy, fy, fy] rfl rfl (any_of HT_.out (by kernel_rfl)) (fun _ _ _ h => h) (Or.inl ⟨by rfl, ?_⟩) ?_ ?_; rotate_left; (intro w'; go_simp; with_reducible rfl); rotate_left; (simp only [Act.put, sA_, sB_, sC_, i64_w, i32_w]; rfl)
                    refine pure_ (i := 1) (N := some 51) (v := ?_) (a' := ?_) #[ty, ty, fy, fy, fy, fy, fy, fy, fy, fy, fy, fy, fy, fy, fy, fy, fy, fy] rfl rfl (any_of HT_.out (by kernel_rfl)) (fun _ _ _ h => h) (Or.inl ⟨by rfl, ?_⟩) ?_ ?_; rotate_left; (intro w'; go_simp; with_reducible rfl); rotate_left; (simp only [Act.put, sA_, sB_, sC_, i64_w, i32_w]; rfl)
                    refine pure_ (i := 2) (N := some 52) (v := ?_) (a' := ?_) #[ty, ty, ty, fy, fy, fy, fy, fy, fy, fy, fy, fy, fy, fy, fy, fy, fy, fy] rfl rfl (any_of HT_.out (by kernel_rfl)) (fun _ _ _ h => h) (Or.inl ⟨by rfl, ?_⟩) ?_ ?_; rotate_left; (intro w'; go_simp; with_reducible rfl); rotate_left; (simp only [Act.put, sA_, sB_, sC_, i64_w, i32_w]; rfl)
                    refine pure_ (i := 4) (N := some 54) (v := ?_) (a' := ?_) #[ty, ty, ty, fy, ty, fy, fy, fy, fy, fy, fy, fy, fy, fy, fy, fy, fy, fy] rfl rfl (any_of HT_.out (by kernel_rfl)) (fun _ _ _ h => h) (Or.inl ⟨by rfl, ?_⟩) ?_ ?_; rotate_left; (intro w'; go_simp; with_reducible rfl); rotate_left; (simp only [Act.put, sA_, sB_, sC_, i64_w, i32_w]; rfl)
                    refine pure_ (i := 5) (N := some 55) (v := ?_) (a' := ?_) #[ty, ty, ty, fy, ty, ty, fy, fy, fy, fy, fy, fy, fy, fy, fy, fy, fy, fy] rfl rfl (any_of HT_.out (by kernel_rfl)) (fun _ _ _ h => h) (Or.inl ⟨by rfl, ?_⟩) ?_ ?_; rotate_left; (intro w'; go_simp; with_reducible rfl); rotate_left; (simp only [Act.put, sA_, sB_, sC_, i64_w, i32_w]; rfl)
                    refine pure_ (i := 6) (N := some 56) (v := ?_) (a' := ?_) #[ty, ty, ty, fy, ty, ty, ty, fy, fy, fy, fy, fy, fy, fy, fy, fy, fy, fy] rfl rfl (any_of HT_.out (by kernel_rfl)) (fun _ _ _ h => h) (Or.inl ⟨by rfl, ?_⟩) ?_ ?_; rotate_left; (intro w'; go_simp; with_reducible rfl); rotate_left; (simp only [Act.put, sA_, sB_, sC_, i64_w, i32_w]; rfl)
                    refine pure_ (i := 10) (N := some 60) (v := ?_) (a' := ?_) #[ty, ty, ty, fy, ty, ty, ty, fy, fy, fy, ty, fy, fy, fy, fy, fy, fy, fy] rfl rfl (any_of HT_.out (by kernel_rfl)) (fun _ _ _ h => h) (Or.inl ⟨by rfl, ?_⟩) ?_ ?_; rotate_left; (intro w'; go_simp; with_reducible rfl); rotate_left; (simp only [Act.put, sA_, sB_, sC_, i64_w, i32_w]; rfl)
                    refine pure_ (i := 11) (N := some 61) (v := ?_) (a' := ?_) #[ty, ty, ty, fy, ty, ty, ty, fy, fy, fy, ty, ty, fy, fy, fy, fy, fy, fy] rfl rfl (any_of HT_.out (by kernel_rfl)) (fun _ _ _ h => h) (Or.inl ⟨by rfl, ?_⟩) ?_ ?_; rotate_left; (intro w'; go_simp; with_reducible rfl); rotate_left; (simp only [Act.put, sA_, sB_, sC_, i64_w, i32_w]; rfl)
                    refine pure_ (i := 12) (N := some 62) (v := ?_) (a' := ?_) #[ty, ty, ty, fy, ty, ty, ty, fy, fy, fy, ty, ty, ty, fy, fy, fy, fy, fy] rfl rfl (any_of HT_.out (by kernel_rfl)) (fun _ _ _ h => h) (Or.inl ⟨by rfl, ?_⟩) ?_ ?_; rotate_left; (intro w'; go_simp; with_reducible rfl); rotate_left; (simp only [Act.put, sA_, sB_, sC_, i64_w, i32_w]; rfl)
                    refine take_ (i := 3) (N := some 53) (v := ?_) (a' := ?_) #[ty, ty, ty, ty, ty, ty, ty, fy, fy, fy, ty, ty, ty, fy, fy, fy, fy, fy] rfl rfl (take_ofW HT_.out HW_.out (by kernel_rfl)) (fun _ _ _ h => h) (Or.inl ⟨by rfl, ?_⟩) hHeld ?_ ?_; rotate_left; (rintro w' ⟨s0, s1, s2⟩; go_simp; with_reducible rfl); rotate_left; (simp only [Act.put, sA_, sB_, sC_, i64_w, i32_w]; rfl)
                    refine take_ (i := 7) (N := some 57) (v := ?_) (a' := ?_) #[ty, ty, ty, ty, ty, ty, ty, ty, fy, fy, ty, ty, ty, fy, fy, fy, fy, fy] rfl rfl (take_ofW HT_.out HW_.out (by kernel_rfl)) (fun _ _ _ h => h) (Or.inl ⟨by rfl, ?_⟩) hHeld ?_ ?_; rotate_left; (rintro w' ⟨s0, s1, s2⟩; go_simp; with_reducible rfl); rotate_left; (simp only [Act.put, sA_, sB_, sC_, i64_w, i32_w]; rfl)
                    refine pure_ (i := 8) (N := some 58) (v := ?_) (a' := ?_) #[ty, ty, ty, ty, ty, ty, ty, ty, ty, fy, ty, ty, ty, fy, fy, fy, fy, fy] rfl rfl (any_of HT_.out (by kernel_rfl)) (fun _ _ _ h => h) (Or.inl ⟨by rfl, ?_⟩) ?_ ?_; rotate_left; (intro w'; go_simp; with_reducible rfl); rotate_left; (simp only [Act.put, sA_, sB_, sC_, i64_w, i32_w]; rfl)
                    refine pure_ (i := 9) (N := some 59) (v := ?_) (a' := ?_) #[ty, ty, ty, ty, ty, ty, ty, ty, ty, ty, ty, ty, ty, fy, fy, fy, fy, fy] rfl rfl (any_of HT_.out (by kernel_rfl)) (fun _ _ _ h => h) (Or.inl ⟨by rfl, ?_⟩) ?_ ?_; rotate_left; (intro w'; go_simp; with_reducible rfl); rotate_left; (simp only [Act.put, sA_, sB_, sC_, i64_w, i32_w]; rfl)
                    refine pure_ (i := 14) (N := some 64) (v := ?_) (a' := ?_) #[ty, ty, ty, ty, ty, ty, ty, ty, ty, ty, ty, ty, ty, fy, ty, fy, fy, fy] rfl rfl (any_of HT_.out (by kernel_rfl)) (fun _ _ _ h => h) (Or.inl ⟨by rfl, ?_⟩) ?_ ?_; rotate_left; (intro w'; go_simp; with_reducible rfl); rotate_left; (simp only [Act.put, sA_, sB_, sC_, i64_w, i32_w]; rfl)
                    refine take_ (i := 13) (N := some 63) (v := ?_) (a' := ?_) #[ty, ty, ty, ty, ty, ty, ty, ty, ty, ty, ty, ty, ty, ty, ty, fy, fy, fy] rfl rfl (take_ofW HT_.out HW_.out (by kernel_rfl)) (fun _ _ _ h => h) (Or.inl ⟨by rfl, ?_⟩) hHeld ?_ ?_; rotate_left; (rintro w' ⟨s0, s1, s2⟩; go_simp; with_reducible rfl); rotate_left; (simp only [Act.put, sA_, sB_, sC_, i64_w, i32_w]; rfl)
                    refine one_ (i := 15) (N := none) #[ty, ty, ty, ty, ty, ty, ty, ty, ty, ty, ty, ty, ty, ty, ty, ty, fy, fy] rfl rfl (one_of HT_.out (by kernel_rfl)) (by decide) (fun K hK => ?_)
                    have hs62 : w59.cell? ⟨gb397, 0, none⟩ = some (.string (⟨#[]⟩ : ByteArray)) := (blk_cell BK397.out 0).trans rfl
                    have hfs62 := blk_frozen BK397.out 0
                    have hns62_0 := NB384_397.out
                    have hns62_1 := NB385_397.out
                    have hns62_2 := NB393_397.out
                    have hns62_3 := NB395_397.out
                    have hms62_0 := NB397_384.out
                    have hms62_1 := NB397_385.out
                    have hms62_2 := NB397_393.out
                    have hms62_3 := NB397_395.out
                    refine skip_ (w1 := ?_) (by rfl) rfl ?_ ?_
                    rotate_left
                    ·
                     go_simp
                     rfl
                    refine hK.out _ _ ⟨((cell_far (p := ⟨gb397, _, none⟩) (by (rw [add_block]; exact Kd.own_blk (Kd.R_ne HO_3.out BK397.out (by decide)))) _).trans (hHeld.1)), ((cell_far (p := ⟨gb397, _, none⟩) (by (rw [add_block]; exact Kd.own_blk (Kd.R_ne HO_3.out BK397.out (by decide)))) _).trans (hHeld.2.1)), ((cell_far (p := ⟨gb397, _, none⟩) (by (rw [add_block]; exact Kd.own_blk (Kd.R_ne HO_6.out BK397.out (by decide)))) _).trans (hHeld.2.2))⟩ (fun hHeld => ?_)
                    clear hK K
                    refine pure_ (i := 16) (N := some 65) (v := ?_) (a' := ?_) #[ty, ty, ty, ty, ty, ty, ty, ty, ty, ty, ty, ty, ty, ty, ty, ty, ty, fy] rfl rfl (any_of HT_.out (by kernel_rfl)) (fun _ _ _ h => h) (Or.inl ⟨by rfl, ?_⟩) ?_ ?_; rotate_left; (intro w'; go_simp; with_reducible rfl); rotate_left; (simp only [Act.put, sA_, sB_, sC_, i64_w, i32_w]; rfl)
                    refine one_ (i := 17) (N := none) #[ty, ty, ty, ty, ty, ty, ty, ty, ty, ty, ty, ty, ty, ty, ty, ty, ty, ty] rfl rfl (one_of HT_.out (by kernel_rfl)) (by decide) (fun K hK => ?_)
                    have hs63 : w59.cell? ⟨gb397, 1, none⟩ = some (.int .i64 (-1)) := (blk_cell BK397.out 1).trans rfl
                    have hfs63 := blk_frozen BK397.out 1
                    have hns63_0 := NB384_397.out
                    have hns63_1 := NB385_397.out
                    have hns63_2 := NB393_397.out
                    have hns63_3 := NB395_397.out
                    have hms63_0 := NB397_384.out
                    have hms63_1 := NB397_385.out
                    have hms63_2 := NB397_393.out
                    have hms63_3 := NB397_395.out
                    refine skip_ (w1 := ?_) (by rfl) rfl ?_ ?_
                    rotate_left
                    ·
                     go_simp
                     rfl
                    refine hK.out _ _ ⟨((cell_far (p := ⟨gb397, _, none⟩) (by (rw [add_block]; exact Kd.own_blk (Kd.R_ne HO_3.out BK397.out (by decide)))) _).trans (hHeld.1)), ((cell_far (p := ⟨gb397, _, none⟩) (by (rw [add_block]; exact Kd.own_blk (Kd.R_ne HO_3.out BK397.out (by decide)))) _).trans (hHeld.2.1)), ((cell_far (p := ⟨gb397, _, none⟩) (by (rw [add_block]; exact Kd.own_blk (Kd.R_ne HO_6.out BK397.out (by decide)))) _).trans (hHeld.2.2))⟩ (fun hHeld => ?_)
                    clear hK K
                    refine done_ (done_of HT_.out (by kernel_rfl)) ?_
                    have n0_ : Aside0 (Kd.R Kd.string 9 ((w59.setCell ⟨gb397, 0, none⟩ (.string ((rdOf ByteArray.empty t386 x24_1).extract (((rdOf ByteArray.empty t386 x10_2).size : Int) : Int).toNat (rdOf ByteArray.empty t386 x24_1).size))).setCell ⟨gb397, 1, none⟩ (.int .i64 (rd x6_1 x10_2))) w.heap.size (fun _ => True) (.slice (some ad399) t386.length co60) t386) := ⟨by exact Kd.R_mono (Kd.R_far (p := ⟨gb397, 1, none⟩) (Kd.R_far (p := ⟨gb397, 0, none⟩) (Kd.R_types HO_3.out BK397.out (by decide)) (fun _ hk => hk.2) (.string ((rdOf ByteArray.empty t386 x24_1).extract (((rdOf ByteArray.empty t386 x10_2).size : Int) : Int).toNat (rdOf ByteArray.empty t386 x24_1).size))) (fun _ hk => hk.2) (.int .i64 (rd x6_1 x10_2))) (fun _ hk => trivial)⟩
                    have n1_ : Aside0 (Kd.R (Kd.int .i64) 3 ((w59.setCell ⟨gb397, 0, none⟩ (.string ((rdOf ByteArray.empty t386 x24_1).extract (((rdOf ByteArray.empty t386 x10_2).size : Int) : Int).toNat (rdOf ByteArray.empty t386 x24_1).size))).setCell ⟨gb397, 1, none⟩ (.int .i64 (rd x6_1 x10_2))) w.heap.size (fun _ => True) (.slice (some ad401) x6_1.length co61) x6_1) := ⟨by exact Kd.R_mono (Kd.R_far (p := ⟨gb397, 1, none⟩) (Kd.R_far (p := ⟨gb397, 0, none⟩) (Kd.R_types HO_6.out BK397.out (by decide)) (fun _ hk => hk.2) (.string ((rdOf ByteArray.empty t386 x24_1).extract (((rdOf ByteArray.empty t386 x10_2).size : Int) : Int).toNat (rdOf ByteArray.empty t386 x24_1).size))) (fun _ hk => hk.2) (.int .i64 (rd x6_1 x10_2))) (fun _ hk => trivial)⟩
                    have n2_ : Aside0 (Kd.R k56 56 ((w59.setCell ⟨gb397, 0, none⟩ (.string ((rdOf ByteArray.empty t386 x24_1).extract (((rdOf ByteArray.empty t386 x10_2).size : Int) : Int).toNat (rdOf ByteArray.empty t386 x24_1).size))).setCell ⟨gb397, 1, none⟩ (.int .i64 (rd x6_1 x10_2))) w.heap.size (fun k_ => k_ ≠ gb397) u394000 x394000_1) := ⟨by exact Kd.R_mono (Kd.R_far (p := ⟨gb397, 1, none⟩) (Kd.R_far (p := ⟨gb397, 0, none⟩) (Kd.R_mono HO_394000.out (fun k_ hk => (⟨hk, hk⟩ : _ ∧ k_ ≠ gb397))) (fun _ hk => hk.2) (.string ((rdOf ByteArray.empty t386 x24_1).extract (((rdOf ByteArray.empty t386 x10_2).size : Int) : Int).toNat (rdOf ByteArray.empty t386 x24_1).size))) (fun _ hk => hk.2) (.int .i64 (rd x6_1 x10_2))) (fun _ hk => hk.1)⟩
                    have n3_ : Aside0 (((w59.setCell ⟨gb397, 0, none⟩ (.string ((rdOf ByteArray.empty t386 x24_1).extract (((rdOf ByteArray.empty t386 x10_2).size : Int) : Int).toNat (rdOf ByteArray.empty t386 x24_1).size))).setCell ⟨gb397, 1, none⟩ (.int .i64 (rd x6_1 x10_2))).heap[gb384]? = some (.cells #[.slice (some ad394) l0_0.length c0_0] 44 (0, 0))) := ⟨by refine blk_far ?_ NB384_397.out _; refine blk_far ?_ NB384_397.out _; exact BK384.out⟩
                    have n4_ : Aside0 (((w59.setCell ⟨gb397, 0, none⟩ (.string ((rdOf ByteArray.empty t386 x24_1).extract (((rdOf ByteArray.empty t386 x10_2).size : Int) : Int).toNat (rdOf ByteArray.empty t386 x24_1).size))).setCell ⟨gb397, 1, none⟩ (.int .i64 (rd x6_1 x10_2))).heap[gb385]? = some (.cells #[.slice none 0 0] 29 (0, 0))) := ⟨by refine blk_far ?_ NB385_397.out _; refine blk_far ?_ NB385_397.out _; exact BK385.out⟩
                    have n5_ : Aside0 (((w59.setCell ⟨gb397, 0, none⟩ (.string ((rdOf ByteArray.empty t386 x24_1).extract (((rdOf ByteArray.empty t386 x10_2).size : Int) : Int).toNat (rdOf ByteArray.empty t386 x24_1).size))).setCell ⟨gb397, 1, none⟩ (.int .i64 (rd x6_1 x10_2))).heap[gb393]? = some (.cells #[u394000] 29 (0, 0))) := ⟨by refine blk_far ?_ NB393_397.out _; refine blk_far ?_ NB393_397.out _; exact BK393.out⟩
                    have n6_ : Aside0 (((w59.setCell ⟨gb397, 0, none⟩ (.string ((rdOf ByteArray.empty t386 x24_1).extract (((rdOf ByteArray.empty t386 x10_2).size : Int) : Int).toNat (rdOf ByteArray.empty t386 x24_1).size))).setCell ⟨gb397, 1, none⟩ (.int .i64 (rd x6_1 x10_2))).heap[gb395]? = some (.cells #[.int .i64 ((rd_T73 l0_0 x24_1).f0), .int .i64 ((rd_T73 l0_0 x24_1).f1), .bool ((rd_T73 l0_0 x24_1).f2)] 73 (0, 0))) := ⟨by refine blk_far ?_ NB395_397.out _; refine blk_far ?_ NB395_397.out _; exact BK395.out⟩
                    have n7_ : Aside0 (((w59.setCell ⟨gb397, 0, none⟩ (.string ((rdOf ByteArray.empty t386 x24_1).extract (((rdOf ByteArray.empty t386 x10_2).size : Int) : Int).toNat (rdOf ByteArray.empty t386 x24_1).size))).setCell ⟨gb397, 1, none⟩ (.int .i64 (rd x6_1 x10_2))).heap[gb397]? = some (.cells #[.string ((rdOf ByteArray.empty t386 x24_1).extract (((rdOf ByteArray.empty t386 x10_2).size : Int) : Int).toNat (rdOf ByteArray.empty t386 x24_1).size), .int .i64 (rd x6_1 x10_2), .bool ((rd_T73 l0_0 x24_1).f2)] 56 (0, 0))) := ⟨by refine blk_put (cs := #[.string ((rdOf ByteArray.empty t386 x24_1).extract (((rdOf ByteArray.empty t386 x10_2).size : Int) : Int).toNat (rdOf ByteArray.empty t386 x24_1).size), .int .i64 (-1), .bool ((rd_T73 l0_0 x24_1).f2)]) ?_ 1 _ rfl; refine blk_put (cs := #[.string (⟨#[]⟩ : ByteArray), .int .i64 (-1), .bool ((rd_T73 l0_0 x24_1).f2)]) ?_ 0 _ rfl; exact BK397.out⟩
                    have n8_ : Aside0 (Below w.heap.size w ((w59.setCell ⟨gb397, 0, none⟩ (.string ((rdOf ByteArray.empty t386 x24_1).extract (((rdOf ByteArray.empty t386 x10_2).size : Int) : Int).toNat (rdOf ByteArray.empty t386 x24_1).size))).setCell ⟨gb397, 1, none⟩ (.int .i64 (rd x6_1 x10_2)))) := ⟨by repeat (first | (with_reducible first | exact HB.out | apply below_alloc | apply pw_below_drewN | apply below_drew1 | refine below_set ?_ GE384.out | refine below_set ?_ GE385.out | refine below_set ?_ GE393.out | refine below_set ?_ GE395.out | refine below_set ?_ GE397.out) | exact HB.out)⟩
                    (try clear HO_3)
                    (try clear HO_6)
                    (try clear HO_394000)
                    (try clear BK384)
                    (try clear BK385)
                    (try clear BK393)
                    (try clear BK395)
                    (try clear BK397)
                    (try clear HB)
                    (try rw [← Int.toNat_natCast (rdOf ByteArray.empty t386 x10_2).size])
                    generalize ((w59.setCell ⟨gb397, 0, none⟩ (.string ((rdOf ByteArray.empty t386 x24_1).extract (((rdOf ByteArray.empty t386 x10_2).size : Int) : Int).toNat (rdOf ByteArray.empty t386 x24_1).size))).setCell ⟨gb397, 1, none⟩ (.int .i64 (rd x6_1 x10_2))) = w64 at n0_ n1_ n2_ n3_ n4_ n5_ n6_ n7_ n8_ ⊢
                    have HO_3 := n0_
                    have HO_6 := n1_
                    have HO_394000 := n2_
                    have BK384 := n3_
                    have BK385 := n4_
                    have BK393 := n5_
                    have BK395 := n6_
                    have BK397 := n7_
                    have HB := n8_
                    clear n0_ n1_ n2_ n3_ n4_ n5_ n6_ n7_ n8_
                    have hnb65 := NB393_385.out
                    have hnc65 := NB385_393.out
                    have hnb66 := NB393_395.out
                    have hnc66 := NB395_393.out
                    have hnb67 := NB393_397.out
                    have hnc67 := NB397_393.out
                    have hcz68_0 : w64.cell? ⟨gb393, 0, none⟩ = some (u394000) := (blk_cell BK393.out 0).trans rfl
                    have hfz68_0 := blk_frozen BK393.out 0
                    obtain ⟨Ao69, co69, eo69⟩ := Kd.R_slice HO_394000.out
                    subst eo69
                    have p51 : 0 ≤ (x24_1 : Int) := of_decide_eq_true (by (with_reducible assumption))
                    have q51 : (x24_1 : Int) < ((x6_1.length : Int) : Int) := of_decide_eq_true (by (with_reducible assumption))
                    obtain ⟨go51, co51, eo51, gb51, gl51, cl51, HG51⟩ := Kd.R_form HO_6.out (by omega)
                    (cases eo51)
                    have GB51 := aM_ gb51
                    have GG51 := aM_ HG51
                    clear gb51 gl51 HG51
                    (simp only [add_plain] at hx401_0)
                    (try simp only [Int.toNat_natCast] at hx401_0)
                    obtain ⟨hx51_0, hf51_0⟩ := Kd.R_celln 0 HO_6.out (x24_1 : Int) p51 q51
                    (try simp only [Int.toNat_natCast] at hx51_0 hf51_0)
                    replace p51 := eq_true p51
                    replace q51 := eq_true q51
                    obtain ⟨hy70_, hz70_⟩ := Kd.R_celln 0 HO_6.out (x24_1 : Int) (of_decide_eq_true (by (with_reducible assumption))) (of_decide_eq_true (by (with_reducible assumption)))
                    have HP70 := Kd.R_putg HO_6.out (x24_1 : Int) (x394000_1.length : Int)
                    try go_wp2_with (first | ((with_reducible refine gate_store (t := 3) (p := 71) rfl ?_); refine store_event (t := 3) (p := 71) (v := ?vo_w71) (w1 := (w64.setCell ⟨go51, (x24_1 : Int).toNat, none⟩ (.int .i64 (x394000_1.length : Int)))) ?hg ?ho ?hn ?hr ?_; (case ho => rfl); (case hg => rfl); (case hn => rfl); (case hr => (go_simp; done)); intro w71 hw; have hg : w64.grownBy w71 (some go51) := (by rw [hw]; exact HP70.2); have hp_ : Kd.R (Kd.int .i64) 3 w71 w.heap.size (fun _ => True) (.slice (some ⟨go51, 0, none⟩) x6_1.length co61) y402 := (by rw [hw, Ny402.out]; exact HP70.1); clear HP70; replace HO_3 := aM_ (Kd.R_over' (v := (.slice (some ⟨go51, 0, none⟩) x6_1.length co61)) HO_3.out (Kd.R_typed HO_6.out) (by decide) hg); replace HO_394000 := aM_ (Kd.R_over' (v := (.slice (some ⟨go51, 0, none⟩) x6_1.length co61)) HO_394000.out (Kd.R_typed HO_6.out) (by decide) hg); replace BK384 := aM_ (blk_grown (g := gb384) (o := .cells #[.slice (some ad394) l0_0.length c0_0] 44 (0, 0)) BK384.out hg (Kd.R_ne HO_6.out BK384.out (by decide))); replace BK385 := aM_ (blk_grown (g := gb385) (o := .cells #[.slice none 0 0] 29 (0, 0)) BK385.out hg (Kd.R_ne HO_6.out BK385.out (by decide))); replace BK393 := aM_ (blk_grown (g := gb393) (o := .cells #[.slice Ao69 x394000_1.length co69] 29 (0, 0)) BK393.out hg (Kd.R_ne HO_6.out BK393.out (by decide))); replace BK395 := aM_ (blk_grown (g := gb395) (o := .cells #[.int .i64 ((rd_T73 l0_0 x24_1).f0), .int .i64 ((rd_T73 l0_0 x24_1).f1), .bool ((rd_T73 l0_0 x24_1).f2)] 73 (0, 0)) BK395.out hg (Kd.R_ne HO_6.out BK395.out (by decide))); replace BK397 := aM_ (blk_grown (g := gb397) (o := .cells #[.string ((rdOf ByteArray.empty t386 x24_1).extract (((rdOf ByteArray.empty t386 x10_2).size : Int) : Int).toNat (rdOf ByteArray.empty t386 x24_1).size), .int .i64 (rd x6_1 x10_2), .bool ((rd_T73 l0_0 x24_1).f2)] 56 (0, 0)) BK397.out hg (Kd.R_ne HO_6.out BK397.out (by decide))); replace HO_6 := aM_ (hp_); replace HB := aM_ ((by rw [hw]; exact below_set (HB.out) GB51.out : Below w.heap.size w w71)); clear hg hw hp_; have hcz72_0 : w71.cell? ⟨gb393, 0, none⟩ = some (.slice Ao69 x394000_1.length co69) := (blk_cell BK393.out 0).trans rfl; have hfz72_0 := blk_frozen BK393.out 0; have hnb73 := NB397_385.out; have hnc73 := NB385_397.out; have hnb74 := NB397_395.out; have hnc74 := NB395_397.out; have hcz75_0 : w71.cell? ⟨gb397, 0, none⟩ = some (.string ((rdOf ByteArray.empty t386 x24_1).extract (((rdOf ByteArray.empty t386 x10_2).size : Int) : Int).toNat (rdOf ByteArray.empty t386 x24_1).size)) := (blk_cell BK397.out 0).trans rfl; have hcz75_1 : w71.cell? ⟨gb397, 1, none⟩ = some (.int .i64 (rd x6_1 x10_2)) := (blk_cell BK397.out 1).trans rfl; have hcz75_2 : w71.cell? ⟨gb397, 2, none⟩ = some (.bool ((rd_T73 l0_0 x24_1).f2)) := (blk_cell BK397.out 2).trans rfl; have hfz75_0 := blk_frozen BK397.out 0; have hfz75_1 := blk_frozen BK397.out 1; have hfz75_2 := blk_frozen BK397.out 2) | ((with_reducible refine gate_builtin (b := .append) (xs := #[.tmp 73, .tmp 75]) rfl ?_); at_builtin; refine Kd.R_append k56 (w0 := w) w.heap.size rfl (.tmp 73) (.tmp 75) 27 56 (.agg #[(.string ⟨#[]⟩), (.int .i64 0), (.bool false)]) 32 rfl Tryd.underlying27 info56 rfl (by decide) (by omega) (.slice Ao69 x394000_1.length co69) x394000_1 (⟨(rdOf ByteArray.empty t386 x24_1).extract (((rdOf ByteArray.empty t386 x10_2).size : Int) : Int).toNat (rdOf ByteArray.empty t386 x24_1).size, rd x6_1 x10_2, ((rd_T73 l0_0 x24_1).f2)⟩ : S56) [.string ((rdOf ByteArray.empty t386 x24_1).extract (((rdOf ByteArray.empty t386 x10_2).size : Int) : Int).toNat (rdOf ByteArray.empty t386 x24_1).size), .int .i64 (rd x6_1 x10_2), .bool ((rd_T73 l0_0 x24_1).f2)] (fun k_ => k_ ≠ gb397) (fun _ => False) rfl rfl ?aP (fun _ hk => hk.elim) ?aF ?aO ?aB ?aS ?aL ?_; (case aP => exact k56_mkM _ _ _ (⟨(rdOf ByteArray.empty t386 x24_1).extract (((rdOf ByteArray.empty t386 x10_2).size : Int) : Int).toNat (rdOf ByteArray.empty t386 x24_1).size, rd x6_1 x10_2, ((rd_T73 l0_0 x24_1).f2)⟩ : S56)); (case aB => exact HB.out); (case aF => exact (fun k_ hk => Kd.freshB (g := gb397) (o := .cells #[.string ((rdOf ByteArray.empty t386 x24_1).extract (((rdOf ByteArray.empty t386 x10_2).size : Int) : Int).toNat (rdOf ByteArray.empty t386 x24_1).size), .int .i64 (rd x6_1 x10_2), .bool ((rd_T73 l0_0 x24_1).f2)] 56 (0, 0)) BK397.out k_ hk)); (case aO => exact HO_394000.out); (case aS => exact (below_size HB.out)); (case aL => have := LMc52.out; omega); intro v404 w76 ho hb hg hat; rw [← Ny403.out] at ho; have n0_ := aM_ (Kd.R_over' HO_3.out (Kd.R_typed HO_394000.out) (by decide) hg); have n1_ := aM_ (Kd.R_over' HO_6.out (Kd.R_typed HO_394000.out) (by decide) hg); have n2_ := aM_ (blk_grown (g := gb384) (o := .cells #[.slice (some ad394) l0_0.length c0_0] 44 (0, 0)) BK384.out hg (Kd.R_ne HO_394000.out BK384.out (by decide))); have n3_ := aM_ (blk_grown (g := gb385) (o := .cells #[.slice none 0 0] 29 (0, 0)) BK385.out hg (Kd.R_ne HO_394000.out BK385.out (by decide))); have n4_ := aM_ (blk_grown (g := gb393) (o := .cells #[.slice Ao69 x394000_1.length co69] 29 (0, 0)) BK393.out hg (Kd.R_ne HO_394000.out BK393.out (by decide))); have n5_ := aM_ (blk_grown (g := gb395) (o := .cells #[.int .i64 ((rd_T73 l0_0 x24_1).f0), .int .i64 ((rd_T73 l0_0 x24_1).f1), .bool ((rd_T73 l0_0 x24_1).f2)] 73 (0, 0)) BK395.out hg (Kd.R_ne HO_394000.out BK395.out (by decide))); have n6_ := aM_ (blk_grown (g := gb397) (o := .cells #[.string ((rdOf ByteArray.empty t386 x24_1).extract (((rdOf ByteArray.empty t386 x10_2).size : Int) : Int).toNat (rdOf ByteArray.empty t386 x24_1).size), .int .i64 (rd x6_1 x10_2), .bool ((rd_T73 l0_0 x24_1).f2)] 56 (0, 0)) BK397.out hg (Kd.R_away HO_394000.out (fun _ hk => hk))); have n7_ := aM_ (hb); have n8_ := aM_ (ho); clear HO_3; clear HO_6; clear BK384; clear BK385; clear BK393; clear BK395; clear BK397; clear HB; clear HO_394000; have HO_3 := n0_; have HO_6 := n1_; have BK384 := n2_; have BK385 := n3_; have BK393 := n4_; have BK395 := n5_; have BK397 := n6_; have HB := n7_; have HO405 := n8_; clear n0_ n1_ n2_ n3_ n4_ n5_ n6_ n7_ n8_; clear ho hb hg hat; obtain ⟨Ao77, co77, eo77⟩ := Kd.R_slice HO405.out; subst eo77; have hcz78_0 : w76.cell? ⟨gb393, 0, none⟩ = some (.slice Ao69 x394000_1.length co69) := (blk_cell BK393.out 0).trans rfl; have hfz78_0 := blk_frozen BK393.out 0))
                    go_roundg k2
                    case measure => have := HK1.out; have := HK2.out; omega
                    case rel => exact ⟨(y402), (wrap64 (x24_1 + 1)), (y403), (.slice Ao77 y403.length co77), (by rfl), H', ⟨by have := HK1.out; have := HK2.out; omega⟩, ⟨by exact Kd.R_mono (Kd.R_far (p := ⟨gb393, 0, none⟩) (Kd.R_types HO_3.out BK393.out (by decide)) (fun _ hk => hk.2) (.slice Ao77 y403.length co77)) (fun _ hk => trivial)⟩, ⟨by exact Kd.R_mono (Kd.R_far (p := ⟨gb393, 0, none⟩) (Kd.R_types HO_6.out BK393.out (by decide)) (fun _ hk => hk.2) (.slice Ao77 y403.length co77)) (fun _ hk => trivial)⟩, ⟨by exact Kd.R_mono (Kd.R_far (p := ⟨gb393, 0, none⟩) (Kd.R_types HO405.out BK393.out (by decide)) (fun _ hk => hk.2) (.slice Ao77 y403.length co77)) (fun _ hk => trivial)⟩, ⟨by refine blk_far ?_ NB384_393.out _; exact BK384.out⟩, ⟨by refine blk_far ?_ NB385_393.out _; exact BK385.out⟩, ⟨by refine blk_put (cs := #[.slice Ao69 x394000_1.length co69]) ?_ 0 _ rfl; exact BK393.out⟩, ⟨by repeat (first | (with_reducible first | exact HB.out | apply below_alloc | apply pw_below_drewN | apply below_drew1 | refine below_set ?_ GE384.out | refine below_set ?_ GE385.out | refine below_set ?_ GE393.out | refine below_set ?_ GE395.out | refine below_set ?_ GE397.out) | exact HB.out)⟩⟩
                   ·
                    rw [if_neg c52] at H
                    exact absurd H (by simp)
                  ·
                   rw [if_neg c50] at H
                   exact absurd H (by simp)
                 ·
                  rw [if_neg c49] at H
                  exact absurd H (by simp)
                ·
                 rw [if_neg c48] at H
                 exact absurd H (by simp)
               ·
                rw [if_neg c47] at H
                exact absurd H (by simp)
              ·
               rw [if_neg c46] at H
               exact absurd H (by simp)
             ·
              rw [if_neg c45] at H
              exact absurd H (by simp)
            ·
             rw [if_neg c44] at H
             exact absurd H (by simp)
           ·
            rw [if_neg c43] at H
            exact absurd H (by simp)
          ·
           replace c42 := Bool.eq_false_iff.mpr c42
           subst c42
           have H1 : (if 0 ≤ x10_2 then (if x10_2 < (l0_0.length : Int) then (impl_Trie_press.l1 k2 t386 x6_1 x24_1 ((rd_T73 l0_0 x10_2).f1) l0_0 (l0_0.length : Int) x24_1 l0_0 x394000_1 (⟨#[]⟩ : ByteArray) (-1) ((rd_T73 l0_0 x24_1).f2)) else (none)) else (none)) = some r := by rw [if_neg (show ¬ (false = true) by decide)] at H; exact H
           clear H
           have H := H1
           clear H1
           by_cases c79 : 0 ≤ x10_2
           ·
            rw [if_pos c79] at H
            have c79b0 := decide_eq_true c79
            clear c79
            by_cases c80 : x10_2 < (l0_0.length : Int)
            ·
             rw [if_pos c80] at H
             have c80b0 := decide_eq_true c80
             clear c80
             have H' := aM_ H
             clear H
             have hnb81 := NB384_385.out
             have hnc81 := NB385_384.out
             have hnb82 := NB384_393.out
             have hnc82 := NB393_384.out
             have hnb83 := NB384_395.out
             have hnc83 := NB395_384.out
             have hnb84 := NB384_397.out
             have hnc84 := NB397_384.out
             have hcz85_0 : wr.cell? ⟨gb384, 0, none⟩ = some (.slice (some ad394) l0_0.length c0_0) := (blk_cell BK384.out 0).trans rfl
             have hfz85_0 := blk_frozen BK384.out 0
             go_wp2_with (first | ((with_reducible refine gate_callee (f := 57) rfl ?_); refine goesL_ (some 42) rfl rfl Tryd.func57 (by kernel_rfl) rfl #[.agg #[.slice (some ad394) l0_0.length c0_0], .int .i64 x10_2] rfl (by (try simp only [sD_, sE_, sF_]); rfl) ?_; (with_reducible refine (impl_Trie_stays.calls k2 _ _ l0_0 x10_2 false _ ?side1 ?side2 A41.out).mono ?_); (case side1 => repeat (first | exact (Kd.C_below HR0_0.out HB.out) | (with_reducible refine Kd.C_alloc ?_ _) | (with_reducible refine Kd.C_drewN ?_ _) | (with_reducible refine Kd.C_drew ?_))); (case side2 => exact HC0_0.out); rintro e w86 ⟨rfl, hb⟩; refine ⟨_, rfl, ?_⟩; replace HO_3 := aM_ (Kd.R_below HO_3.out hb); replace HO_6 := aM_ (Kd.R_below HO_6.out hb); replace HO_394000 := aM_ (Kd.R_below HO_394000.out hb); replace BK384 := aM_ (blk_below BK384.out hb); replace BK385 := aM_ (blk_below BK385.out hb); replace BK393 := aM_ (blk_below BK393.out hb); replace BK395 := aM_ (blk_below BK395.out hb); replace BK397 := aM_ (blk_below (g := gb397) (o := .cells #[.string (⟨#[]⟩ : ByteArray), .int .i64 (-1), .bool ((rd_T73 l0_0 x24_1).f2)] 56 (0, 0)) BK397.out hb); replace HB := aM_ (below_step HB.out hb); (try clear hb); (try clear hb2); (try clear hk); (try clear hi); have hcz87_0 : w86.cell? ⟨gb384, 0, none⟩ = some (.slice (some ad394) l0_0.length c0_0) := (blk_cell BK384.out 0).trans rfl; have hfz87_0 := blk_frozen BK384.out 0; have p406 : 0 ≤ (x10_2 : Int) := of_decide_eq_true (by (with_reducible assumption)); have q406 : x10_2 < (l0_0.length : Int) := of_decide_eq_true (by (with_reducible assumption)); obtain ⟨ad406, e406, hx406_0, hx406_1, hx406_2⟩ := at_T73 HR0_0.out x10_2 p406 q406; obtain rfl : ad394 = ad406 := (by injection e406); replace hx406_0 := (HB.out.cell (World.block_lt_of_cell? w _ hx406_0)).trans hx406_0; replace hx406_1 := (HB.out.cell (World.block_lt_of_cell? w _ hx406_1)).trans hx406_1; replace hx406_2 := (HB.out.cell (World.block_lt_of_cell? w _ hx406_2)).trans hx406_2; replace p406 := eq_true p406; replace q406 := eq_true q406))
             go_roundg k2
             case measure => have := HK1.out; have := HK2.out; omega
             case rel => exact ⟨((rd_T73 l0_0 x10_2).f1), (by rfl), H', ⟨by have := HK1.out; have := HK2.out; omega⟩, ⟨HO_3.out⟩, ⟨HO_6.out⟩, ⟨HO_394000.out⟩, ⟨BK384.out⟩, ⟨BK385.out⟩, ⟨BK393.out⟩, ⟨BK395.out⟩, ⟨BK397.out⟩, ⟨HB.out⟩⟩
            ·
             rw [if_neg c80] at H
             exact absurd H (by simp)
           ·
            rw [if_neg c79] at H
            exact absurd H (by simp)
       ·
        rw [if_neg c23] at H
        have c23b0 := decide_eq_false c23
        clear c23
        by_cases c88 : x24_1 < (x6_1.length : Int)
        ·
         rw [if_pos c88] at H
         have c88b0 := decide_eq_true c88
         clear c88
         obtain ⟨y407, hy407⟩ : ∃ y_ : List Int, y_ = (x6_1.set (x24_1 : Int).toNat (x394000_1.length : Int)) := ⟨_, rfl⟩
         replace H : (if x394000_1.length < 4398046511104 then (impl_Trie_press.l0 k1 t386 y407 l0_0 (l0_0.length : Int) (wrap64 (x24_1 + 1)) l0_0 (x394000_1 ++ [(⟨(⟨#[]⟩ : ByteArray), (-1), (rd_T73 l0_0 x24_1).f2⟩ : S56)])) else (none)) = some r := by first | (rw [hy407]; with_reducible exact H) | (have H2_ := (Option.bind_some _ _).symm.trans H; rw [hy407]; with_reducible exact H2_) | (have H2_ := (Option.bind_some _ _).symm.trans H; with_reducible exact H2_) | with_reducible exact H | (rw [hy407]; exact H) | exact H
         have Ny407 := aM_ hy407
         clear hy407
         by_cases c90 : x394000_1.length < 4398046511104
         ·
          rw [if_pos c90] at H
          have LMc90 := aM_ c90
          clear c90
          obtain ⟨y408, hy408⟩ : ∃ y_ : List (S56), y_ = (x394000_1 ++ [(⟨(⟨#[]⟩ : ByteArray), (-1), (rd_T73 l0_0 x24_1).f2⟩ : S56)]) := ⟨_, rfl⟩
          replace H : (impl_Trie_press.l0 k1 t386 y407 l0_0 (l0_0.length : Int) (wrap64 (x24_1 + 1)) l0_0 y408) = some r := by first | (rw [hy408]; with_reducible exact H) | (have H2_ := (Option.bind_some _ _).symm.trans H; rw [hy408]; with_reducible exact H2_) | (have H2_ := (Option.bind_some _ _).symm.trans H; with_reducible exact H2_) | with_reducible exact H | (rw [hy408]; exact H) | exact H
          have Ny408 := aM_ hy408
          clear hy408
          have H' := aM_ H
          clear H
          have p394 : 0 ≤ (x24_1 : Int) := of_decide_eq_true (by (with_reducible assumption))
          have q394 : x24_1 < (l0_0.length : Int) := of_decide_eq_true (by (with_reducible assumption))
          obtain ⟨ad394, e394, hx394_0, hx394_1, hx394_2⟩ := at_T73 HR0_0.out x24_1 p394 q394
          cases e394
          replace hx394_0 := (HB.out.cell (World.block_lt_of_cell? w _ hx394_0)).trans hx394_0
          replace hx394_1 := (HB.out.cell (World.block_lt_of_cell? w _ hx394_1)).trans hx394_1
          replace hx394_2 := (HB.out.cell (World.block_lt_of_cell? w _ hx394_2)).trans hx394_2
          replace p394 := eq_true p394
          replace q394 := eq_true q394
          go_wp2_with (first | ((with_reducible refine gate_dst (N := 8) rfl ?_); refine box_event ?hg (N := 8) ?hd (cs := #[.int .i64 0, .int .i64 0, .bool false]) (t := 73) ?hr ?_; (case hd => rfl); (case hg => rfl); (case hr => (go_simp; done)); intro gb395 hg w91 hbox hb; replace HO_3 := aM_ (Kd.R_below HO_3.out hb); replace HO_6 := aM_ (Kd.R_below HO_6.out hb); replace HO_394000 := aM_ (Kd.R_below HO_394000.out hb); have BK395 := aM_ (hbox); have GW395 := aM_ ((by rw [hg]; exact (below_size HB.out) : w.heap.size ≤ gb395)); have GE395 := GW395; replace HB := aM_ (below_step HB.out hb); have NB384_395 := aM_ ((by rw [hg]; exact Nat.ne_of_lt (blk_lt BK384.out) : gb384 ≠ gb395)); have NB395_384 := aM_ NB384_395.out.symm; replace BK384 := aM_ (blk_below BK384.out hb); have NB385_395 := aM_ ((by rw [hg]; exact Nat.ne_of_lt (blk_lt BK385.out) : gb385 ≠ gb395)); have NB395_385 := aM_ NB385_395.out.symm; replace BK385 := aM_ (blk_below BK385.out hb); have NB393_395 := aM_ ((by rw [hg]; exact Nat.ne_of_lt (blk_lt BK393.out) : gb393 ≠ gb395)); have NB395_393 := aM_ NB393_395.out.symm; replace BK393 := aM_ (blk_below BK393.out hb); clear hb hbox hg; have hnb92 := NB395_384.out; have hnc92 := NB384_395.out; have hnb93 := NB395_385.out; have hnc93 := NB385_395.out; have hnb94 := NB395_393.out; have hnc94 := NB393_395.out; have hcz95_0 : w91.cell? ⟨gb395, 0, none⟩ = some (.int .i64 0) := (blk_cell BK395.out 0).trans rfl; have hcz95_1 : w91.cell? ⟨gb395, 1, none⟩ = some (.int .i64 0) := (blk_cell BK395.out 1).trans rfl; have hcz95_2 : w91.cell? ⟨gb395, 2, none⟩ = some (.bool false) := (blk_cell BK395.out 2).trans rfl; have hfz95_0 := blk_frozen BK395.out 0; have hfz95_1 := blk_frozen BK395.out 1; have hfz95_2 := blk_frozen BK395.out 2; have hnb96 := NB384_385.out; have hnc96 := NB385_384.out; have hnb97 := NB384_393.out; have hnc97 := NB393_384.out; have hcz98_0 : w91.cell? ⟨gb384, 0, none⟩ = some (.slice (some ad394) l0_0.length c0_0) := (blk_cell BK384.out 0).trans rfl; have hfz98_0 := blk_frozen BK384.out 0) | ((with_reducible refine gate_callee (f := 57) rfl ?_); refine goesL_ (some 31) rfl rfl Tryd.func57 (by kernel_rfl) rfl #[.agg #[.slice (some ad394) l0_0.length c0_0], .int .i64 x24_1] rfl (by (try simp only [sD_, sE_, sF_]); rfl) ?_; (with_reducible refine (impl_Trie_stays.calls k1 _ _ l0_0 x24_1 true _ ?side1 ?side2 A21.out).mono ?_); (case side1 => exact Kd.C_below HR0_0.out (by repeat (first | (with_reducible first | exact HB.out | apply below_alloc | apply pw_below_drewN | apply below_drew1 | refine below_set ?_ GE384.out | refine below_set ?_ GE385.out | refine below_set ?_ GE393.out | refine below_set ?_ GE395.out) | exact HB.out))); (case side2 => exact HC0_0.out); rintro e w99 ⟨rfl, hb⟩; refine ⟨_, rfl, ?_⟩; replace HO_3 := aM_ (Kd.R_below (by exact (Kd.R_mono (Kd.R_far (p := ⟨gb395, 2, none⟩) (Kd.R_far (p := ⟨gb395, 1, none⟩) (Kd.R_far (p := ⟨gb395, 0, none⟩) (Kd.R_types HO_3.out BK395.out (by decide)) (fun _ hk => hk.2) (.int .i64 ((rd_T73 l0_0 x24_1).f0))) (fun _ hk => hk.2) (.int .i64 ((rd_T73 l0_0 x24_1).f1))) (fun _ hk => hk.2) (.bool ((rd_T73 l0_0 x24_1).f2))) (fun _ h_ => h_.1))) hb); replace HO_6 := aM_ (Kd.R_below (by exact (Kd.R_mono (Kd.R_far (p := ⟨gb395, 2, none⟩) (Kd.R_far (p := ⟨gb395, 1, none⟩) (Kd.R_far (p := ⟨gb395, 0, none⟩) (Kd.R_types HO_6.out BK395.out (by decide)) (fun _ hk => hk.2) (.int .i64 ((rd_T73 l0_0 x24_1).f0))) (fun _ hk => hk.2) (.int .i64 ((rd_T73 l0_0 x24_1).f1))) (fun _ hk => hk.2) (.bool ((rd_T73 l0_0 x24_1).f2))) (fun _ h_ => h_.1))) hb); replace HO_394000 := aM_ (Kd.R_below (by exact (Kd.R_mono (Kd.R_far (p := ⟨gb395, 2, none⟩) (Kd.R_far (p := ⟨gb395, 1, none⟩) (Kd.R_far (p := ⟨gb395, 0, none⟩) (Kd.R_types HO_394000.out BK395.out (by decide)) (fun _ hk => hk.2) (.int .i64 ((rd_T73 l0_0 x24_1).f0))) (fun _ hk => hk.2) (.int .i64 ((rd_T73 l0_0 x24_1).f1))) (fun _ hk => hk.2) (.bool ((rd_T73 l0_0 x24_1).f2))) (fun _ h_ => h_.1))) hb); replace BK384 := aM_ (blk_below (g := gb384) (o := .cells #[.slice (some ad394) l0_0.length c0_0] 44 (0, 0)) (by refine blk_far ?_ NB384_395.out _; refine blk_far ?_ NB384_395.out _; refine blk_far ?_ NB384_395.out _; exact BK384.out) hb); replace BK385 := aM_ (blk_below (g := gb385) (o := .cells #[.slice none 0 0] 29 (0, 0)) (by refine blk_far ?_ NB385_395.out _; refine blk_far ?_ NB385_395.out _; refine blk_far ?_ NB385_395.out _; exact BK385.out) hb); replace BK393 := aM_ (blk_below (g := gb393) (o := .cells #[u394000] 29 (0, 0)) (by refine blk_far ?_ NB393_395.out _; refine blk_far ?_ NB393_395.out _; refine blk_far ?_ NB393_395.out _; exact BK393.out) hb); replace BK395 := aM_ (blk_below (g := gb395) (o := .cells #[.int .i64 ((rd_T73 l0_0 x24_1).f0), .int .i64 ((rd_T73 l0_0 x24_1).f1), .bool ((rd_T73 l0_0 x24_1).f2)] 73 (0, 0)) (by refine blk_put (cs := #[.int .i64 ((rd_T73 l0_0 x24_1).f0), .int .i64 ((rd_T73 l0_0 x24_1).f1), .bool false]) ?_ 2 _ rfl; refine blk_put (cs := #[.int .i64 ((rd_T73 l0_0 x24_1).f0), .int .i64 0, .bool false]) ?_ 1 _ rfl; refine blk_put (cs := #[.int .i64 0, .int .i64 0, .bool false]) ?_ 0 _ rfl; exact BK395.out) hb); replace HB := aM_ (below_step (by repeat (first | (with_reducible first | exact HB.out | apply below_alloc | apply pw_below_drewN | apply below_drew1 | refine below_set ?_ GE384.out | refine below_set ?_ GE385.out | refine below_set ?_ GE393.out | refine below_set ?_ GE395.out) | exact HB.out)) hb); (try clear hb); (try clear hb2); (try clear hk); (try clear hi); have hcz100_0 : w99.cell? ⟨gb395, 0, none⟩ = some (.int .i64 ((rd_T73 l0_0 x24_1).f0)) := (blk_cell BK395.out 0).trans rfl; have hcz100_1 : w99.cell? ⟨gb395, 1, none⟩ = some (.int .i64 ((rd_T73 l0_0 x24_1).f1)) := (blk_cell BK395.out 1).trans rfl; have hcz100_2 : w99.cell? ⟨gb395, 2, none⟩ = some (.bool ((rd_T73 l0_0 x24_1).f2)) := (blk_cell BK395.out 2).trans rfl; have hfz100_0 := blk_frozen BK395.out 0; have hfz100_1 := blk_frozen BK395.out 1; have hfz100_2 := blk_frozen BK395.out 2) | ((with_reducible refine gate_dst (N := 9) rfl ?_); refine box_event ?hg (N := 9) ?hd (cs := #[.string (⟨#[]⟩ : ByteArray), .int .i64 0, .bool false]) (t := 56) ?hr ?_; (case hd => rfl); (case hg => rfl); (case hr => (go_simp; done)); intro gb397 hg w101 hbox hb; replace HO_3 := aM_ (Kd.R_below HO_3.out hb); replace HO_6 := aM_ (Kd.R_below HO_6.out hb); replace HO_394000 := aM_ (Kd.R_below (Kd.R_elderB HO_394000.out gb397 (Nat.le_of_eq hg.symm)) hb); have BK397 := aM_ (hbox); have GW397 := aM_ ((by rw [hg]; exact (below_size HB.out) : w.heap.size ≤ gb397)); have GE397 := GW397; replace HB := aM_ (below_step HB.out hb); have NB384_397 := aM_ ((by rw [hg]; exact Nat.ne_of_lt (blk_lt BK384.out) : gb384 ≠ gb397)); have NB397_384 := aM_ NB384_397.out.symm; replace BK384 := aM_ (blk_below BK384.out hb); have NB385_397 := aM_ ((by rw [hg]; exact Nat.ne_of_lt (blk_lt BK385.out) : gb385 ≠ gb397)); have NB397_385 := aM_ NB385_397.out.symm; replace BK385 := aM_ (blk_below BK385.out hb); have NB393_397 := aM_ ((by rw [hg]; exact Nat.ne_of_lt (blk_lt BK393.out) : gb393 ≠ gb397)); have NB397_393 := aM_ NB393_397.out.symm; replace BK393 := aM_ (blk_below BK393.out hb); have NB395_397 := aM_ ((by rw [hg]; exact Nat.ne_of_lt (blk_lt BK395.out) : gb395 ≠ gb397)); have NB397_395 := aM_ NB395_397.out.symm; replace BK395 := aM_ (blk_below BK395.out hb); clear hb hbox hg; have hnb102 := NB397_384.out; have hnc102 := NB384_397.out; have hnb103 := NB397_385.out; have hnc103 := NB385_397.out; have hnb104 := NB397_393.out; have hnc104 := NB393_397.out; have hnb105 := NB397_395.out; have hnc105 := NB395_397.out; have hcz106_0 : w101.cell? ⟨gb397, 0, none⟩ = some (.string (⟨#[]⟩ : ByteArray)) := (blk_cell BK397.out 0).trans rfl; have hcz106_1 : w101.cell? ⟨gb397, 1, none⟩ = some (.int .i64 0) := (blk_cell BK397.out 1).trans rfl; have hcz106_2 : w101.cell? ⟨gb397, 2, none⟩ = some (.bool false) := (blk_cell BK397.out 2).trans rfl; have hfz106_0 := blk_frozen BK397.out 0; have hfz106_1 := blk_frozen BK397.out 1; have hfz106_2 := blk_frozen BK397.out 2) | ((with_reducible refine gate_store (t := 56) (p := 9) rfl ?_); refine store_event (t := 56) (p := 9) (v := ?vo_w107) (w1 := (((w101.setCell ⟨gb397, 0, none⟩ (.string (⟨#[]⟩ : ByteArray))).setCell ⟨gb397, 1, none⟩ (.int .i64 (-1))).setCell ⟨gb397, 2, none⟩ (.bool ((rd_T73 l0_0 x24_1).f2)))) ?hg ?ho ?hn ?hr ?_; (case ho => rfl); (case hg => rfl); (case hn => rfl); (case hr => (go_simp; done)); intro w107 hw; have n0_ : Aside0 (Kd.R Kd.string 9 w107 w.heap.size (fun _ => True) v387 t386) := ⟨(by rw [hw]; exact (by exact Kd.R_mono (Kd.R_far (p := ⟨gb397, 2, none⟩) (Kd.R_far (p := ⟨gb397, 1, none⟩) (Kd.R_far (p := ⟨gb397, 0, none⟩) (Kd.R_types HO_3.out BK397.out (by decide)) (fun _ hk => hk.2) (.string (⟨#[]⟩ : ByteArray))) (fun _ hk => hk.2) (.int .i64 (-1))) (fun _ hk => hk.2) (.bool ((rd_T73 l0_0 x24_1).f2))) (fun _ hk => trivial)))⟩; have n1_ : Aside0 (Kd.R (Kd.int .i64) 3 w107 w.heap.size (fun _ => True) v391 x6_1) := ⟨(by rw [hw]; exact (by exact Kd.R_mono (Kd.R_far (p := ⟨gb397, 2, none⟩) (Kd.R_far (p := ⟨gb397, 1, none⟩) (Kd.R_far (p := ⟨gb397, 0, none⟩) (Kd.R_types HO_6.out BK397.out (by decide)) (fun _ hk => hk.2) (.string (⟨#[]⟩ : ByteArray))) (fun _ hk => hk.2) (.int .i64 (-1))) (fun _ hk => hk.2) (.bool ((rd_T73 l0_0 x24_1).f2))) (fun _ hk => trivial)))⟩; have n2_ : Aside0 (Kd.R k56 56 w107 w.heap.size (fun k_ => k_ ≠ gb397) u394000 x394000_1) := ⟨(by rw [hw]; exact (by exact Kd.R_mono (Kd.R_far (p := ⟨gb397, 2, none⟩) (Kd.R_far (p := ⟨gb397, 1, none⟩) (Kd.R_far (p := ⟨gb397, 0, none⟩) (Kd.R_mono HO_394000.out (fun k_ hk => (⟨hk, hk.2⟩ : _ ∧ k_ ≠ gb397))) (fun _ hk => hk.2) (.string (⟨#[]⟩ : ByteArray))) (fun _ hk => hk.2) (.int .i64 (-1))) (fun _ hk => hk.2) (.bool ((rd_T73 l0_0 x24_1).f2))) (fun _ hk => hk.1.2)))⟩; have n3_ : Aside0 (w107.heap[gb384]? = some (.cells #[.slice (some ad394) l0_0.length c0_0] 44 (0, 0))) := ⟨(by rw [hw]; exact (by refine blk_far ?_ NB384_397.out _; refine blk_far ?_ NB384_397.out _; refine blk_far ?_ NB384_397.out _; exact BK384.out))⟩; have n4_ : Aside0 (w107.heap[gb385]? = some (.cells #[.slice none 0 0] 29 (0, 0))) := ⟨(by rw [hw]; exact (by refine blk_far ?_ NB385_397.out _; refine blk_far ?_ NB385_397.out _; refine blk_far ?_ NB385_397.out _; exact BK385.out))⟩; have n5_ : Aside0 (w107.heap[gb393]? = some (.cells #[u394000] 29 (0, 0))) := ⟨(by rw [hw]; exact (by refine blk_far ?_ NB393_397.out _; refine blk_far ?_ NB393_397.out _; refine blk_far ?_ NB393_397.out _; exact BK393.out))⟩; have n6_ : Aside0 (w107.heap[gb395]? = some (.cells #[.int .i64 ((rd_T73 l0_0 x24_1).f0), .int .i64 ((rd_T73 l0_0 x24_1).f1), .bool ((rd_T73 l0_0 x24_1).f2)] 73 (0, 0))) := ⟨(by rw [hw]; exact (by refine blk_far ?_ NB395_397.out _; refine blk_far ?_ NB395_397.out _; refine blk_far ?_ NB395_397.out _; exact BK395.out))⟩; have n7_ : Aside0 (w107.heap[gb397]? = some (.cells #[.string (⟨#[]⟩ : ByteArray), .int .i64 (-1), .bool ((rd_T73 l0_0 x24_1).f2)] 56 (0, 0))) := ⟨(by rw [hw]; exact (by refine blk_put (cs := #[.string (⟨#[]⟩ : ByteArray), .int .i64 (-1), .bool false]) ?_ 2 _ rfl; refine blk_put (cs := #[.string (⟨#[]⟩ : ByteArray), .int .i64 0, .bool false]) ?_ 1 _ rfl; refine blk_put (cs := #[.string (⟨#[]⟩ : ByteArray), .int .i64 0, .bool false]) ?_ 0 _ rfl; exact BK397.out))⟩; have n8_ : Aside0 (Below w.heap.size w w107) := ⟨(by rw [hw]; exact (by repeat (first | (with_reducible first | exact HB.out | apply below_alloc | apply pw_below_drewN | apply below_drew1 | refine below_set ?_ GE384.out | refine below_set ?_ GE385.out | refine below_set ?_ GE393.out | refine below_set ?_ GE395.out | refine below_set ?_ GE397.out) | exact HB.out)))⟩; clear hw; clear HO_3; clear HO_6; clear HO_394000; clear BK384; clear BK385; clear BK393; clear BK395; clear BK397; clear HB; have HO_3 := n0_; have HO_6 := n1_; have HO_394000 := n2_; have BK384 := n3_; have BK385 := n4_; have BK393 := n5_; have BK395 := n6_; have BK397 := n7_; have HB := n8_; clear n0_ n1_ n2_ n3_ n4_ n5_ n6_ n7_ n8_; have hnb108 := NB393_385.out; have hnc108 := NB385_393.out; have hcz109_0 : w107.cell? ⟨gb393, 0, none⟩ = some (u394000) := (blk_cell BK393.out 0).trans rfl; have hfz109_0 := blk_frozen BK393.out 0; obtain ⟨Ao110, co110, eo110⟩ := Kd.R_slice HO_394000.out; subst eo110; have p89 : 0 ≤ (x24_1 : Int) := of_decide_eq_true (by (with_reducible assumption)); have q89 : (x24_1 : Int) < ((x6_1.length : Int) : Int) := of_decide_eq_true (by (with_reducible assumption)); obtain ⟨go89, co89, eo89, gb89, gl89, cl89, HG89⟩ := Kd.R_form HO_6.out (by omega); (cases eo89); have GB89 := aM_ gb89; have GG89 := aM_ HG89; clear gb89 gl89 HG89; obtain ⟨hx89_0, hf89_0⟩ := Kd.R_celln 0 HO_6.out (x24_1 : Int) p89 q89; replace p89 := eq_true p89; replace q89 := eq_true q89; obtain ⟨hy111_, hz111_⟩ := Kd.R_celln 0 HO_6.out (x24_1 : Int) (of_decide_eq_true (by (with_reducible assumption))) (of_decide_eq_true (by (with_reducible assumption))); have HP111 := Kd.R_putg HO_6.out (x24_1 : Int) (x394000_1.length : Int)) | ((with_reducible refine gate_store (t := 3) (p := 71) rfl ?_); refine store_event (t := 3) (p := 71) (v := ?vo_w112) (w1 := (w107.setCell ⟨go89, (x24_1 : Int).toNat, none⟩ (.int .i64 (x394000_1.length : Int)))) ?hg ?ho ?hn ?hr ?_; (case ho => rfl); (case hg => rfl); (case hn => rfl); (case hr => (go_simp; done)); intro w112 hw; have hg : w107.grownBy w112 (some go89) := (by rw [hw]; exact HP111.2); have hp_ : Kd.R (Kd.int .i64) 3 w112 w.heap.size (fun _ => True) (.slice (some ⟨go89, 0, none⟩) x6_1.length co89) y407 := (by rw [hw, Ny407.out]; exact HP111.1); clear HP111; replace HO_3 := aM_ (Kd.R_over' (v := (.slice (some ⟨go89, 0, none⟩) x6_1.length co89)) HO_3.out (Kd.R_typed HO_6.out) (by decide) hg); replace HO_394000 := aM_ (Kd.R_over' (v := (.slice (some ⟨go89, 0, none⟩) x6_1.length co89)) HO_394000.out (Kd.R_typed HO_6.out) (by decide) hg); replace BK384 := aM_ (blk_grown (g := gb384) (o := .cells #[.slice (some ad394) l0_0.length c0_0] 44 (0, 0)) BK384.out hg (Kd.R_ne HO_6.out BK384.out (by decide))); replace BK385 := aM_ (blk_grown (g := gb385) (o := .cells #[.slice none 0 0] 29 (0, 0)) BK385.out hg (Kd.R_ne HO_6.out BK385.out (by decide))); replace BK393 := aM_ (blk_grown (g := gb393) (o := .cells #[.slice Ao110 x394000_1.length co110] 29 (0, 0)) BK393.out hg (Kd.R_ne HO_6.out BK393.out (by decide))); replace BK395 := aM_ (blk_grown (g := gb395) (o := .cells #[.int .i64 ((rd_T73 l0_0 x24_1).f0), .int .i64 ((rd_T73 l0_0 x24_1).f1), .bool ((rd_T73 l0_0 x24_1).f2)] 73 (0, 0)) BK395.out hg (Kd.R_ne HO_6.out BK395.out (by decide))); replace BK397 := aM_ (blk_grown (g := gb397) (o := .cells #[.string (⟨#[]⟩ : ByteArray), .int .i64 (-1), .bool ((rd_T73 l0_0 x24_1).f2)] 56 (0, 0)) BK397.out hg (Kd.R_ne HO_6.out BK397.out (by decide))); replace HO_6 := aM_ (hp_); replace HB := aM_ ((by rw [hw]; exact below_set (HB.out) GB89.out : Below w.heap.size w w112)); clear hg hw hp_; have hcz113_0 : w112.cell? ⟨gb393, 0, none⟩ = some (.slice Ao110 x394000_1.length co110) := (blk_cell BK393.out 0).trans rfl; have hfz113_0 := blk_frozen BK393.out 0; have hcz114_0 : w112.cell? ⟨gb397, 0, none⟩ = some (.string (⟨#[]⟩ : ByteArray)) := (blk_cell BK397.out 0).trans rfl; have hcz114_1 : w112.cell? ⟨gb397, 1, none⟩ = some (.int .i64 (-1)) := (blk_cell BK397.out 1).trans rfl; have hcz114_2 : w112.cell? ⟨gb397, 2, none⟩ = some (.bool ((rd_T73 l0_0 x24_1).f2)) := (blk_cell BK397.out 2).trans rfl; have hfz114_0 := blk_frozen BK397.out 0; have hfz114_1 := blk_frozen BK397.out 1; have hfz114_2 := blk_frozen BK397.out 2) | ((with_reducible refine gate_builtin (b := .append) (xs := #[.tmp 73, .tmp 75]) rfl ?_); at_builtin; refine Kd.R_append k56 (w0 := w) w.heap.size rfl (.tmp 73) (.tmp 75) 27 56 (.agg #[(.string ⟨#[]⟩), (.int .i64 0), (.bool false)]) 32 rfl Tryd.underlying27 info56 rfl (by decide) (by omega) (.slice Ao110 x394000_1.length co110) x394000_1 (⟨(⟨#[]⟩ : ByteArray), (-1), (rd_T73 l0_0 x24_1).f2⟩ : S56) [.string (⟨#[]⟩ : ByteArray), .int .i64 (-1), .bool ((rd_T73 l0_0 x24_1).f2)] (fun k_ => k_ ≠ gb397) (fun _ => False) rfl rfl ?aP (fun _ hk => hk.elim) ?aF ?aO ?aB ?aS ?aL ?_; (case aP => exact k56_mkM _ _ _ (⟨(⟨#[]⟩ : ByteArray), (-1), (rd_T73 l0_0 x24_1).f2⟩ : S56)); (case aB => exact HB.out); (case aF => exact (fun k_ hk => Kd.freshB (g := gb397) (o := .cells #[.string (⟨#[]⟩ : ByteArray), .int .i64 (-1), .bool ((rd_T73 l0_0 x24_1).f2)] 56 (0, 0)) BK397.out k_ hk)); (case aO => exact HO_394000.out); (case aS => exact (below_size HB.out)); (case aL => have := LMc90.out; omega); intro v409 w115 ho hb hg hat; rw [← Ny408.out] at ho; have n0_ := aM_ (Kd.R_over' HO_3.out (Kd.R_typed HO_394000.out) (by decide) hg); have n1_ := aM_ (Kd.R_over' HO_6.out (Kd.R_typed HO_394000.out) (by decide) hg); have n2_ := aM_ (blk_grown (g := gb384) (o := .cells #[.slice (some ad394) l0_0.length c0_0] 44 (0, 0)) BK384.out hg (Kd.R_ne HO_394000.out BK384.out (by decide))); have n3_ := aM_ (blk_grown (g := gb385) (o := .cells #[.slice none 0 0] 29 (0, 0)) BK385.out hg (Kd.R_ne HO_394000.out BK385.out (by decide))); have n4_ := aM_ (blk_grown (g := gb393) (o := .cells #[.slice Ao110 x394000_1.length co110] 29 (0, 0)) BK393.out hg (Kd.R_ne HO_394000.out BK393.out (by decide))); have n5_ := aM_ (blk_grown (g := gb395) (o := .cells #[.int .i64 ((rd_T73 l0_0 x24_1).f0), .int .i64 ((rd_T73 l0_0 x24_1).f1), .bool ((rd_T73 l0_0 x24_1).f2)] 73 (0, 0)) BK395.out hg (Kd.R_ne HO_394000.out BK395.out (by decide))); have n6_ := aM_ (blk_grown (g := gb397) (o := .cells #[.string (⟨#[]⟩ : ByteArray), .int .i64 (-1), .bool ((rd_T73 l0_0 x24_1).f2)] 56 (0, 0)) BK397.out hg (Kd.R_away HO_394000.out (fun _ hk => hk))); have n7_ := aM_ (hb); have n8_ := aM_ (ho); clear HO_3; clear HO_6; clear BK384; clear BK385; clear BK393; clear BK395; clear BK397; clear HB; clear HO_394000; have HO_3 := n0_; have HO_6 := n1_; have BK384 := n2_; have BK385 := n3_; have BK393 := n4_; have BK395 := n5_; have BK397 := n6_; have HB := n7_; have HO410 := n8_; clear n0_ n1_ n2_ n3_ n4_ n5_ n6_ n7_ n8_; clear ho hb hg hat; obtain ⟨Ao116, co116, eo116⟩ := Kd.R_slice HO410.out; subst eo116; have hcz117_0 : w115.cell? ⟨gb393, 0, none⟩ = some (.slice Ao110 x394000_1.length co110) := (blk_cell BK393.out 0).trans rfl; have hfz117_0 := blk_frozen BK393.out 0))
          go_roundg k1
          case measure => have := HK1.out; omega
          case rel => exact ⟨(y407), (wrap64 (x24_1 + 1)), (y408), (.slice Ao116 y408.length co116), (by rfl), H', ⟨by have := HK1.out; omega⟩, ⟨by exact Kd.R_mono (Kd.R_far (p := ⟨gb393, 0, none⟩) (Kd.R_types HO_3.out BK393.out (by decide)) (fun _ hk => hk.2) (.slice Ao116 y408.length co116)) (fun _ hk => trivial)⟩, ⟨by exact Kd.R_mono (Kd.R_far (p := ⟨gb393, 0, none⟩) (Kd.R_types HO_6.out BK393.out (by decide)) (fun _ hk => hk.2) (.slice Ao116 y408.length co116)) (fun _ hk => trivial)⟩, ⟨by exact Kd.R_mono (Kd.R_far (p := ⟨gb393, 0, none⟩) (Kd.R_types HO410.out BK393.out (by decide)) (fun _ hk => hk.2) (.slice Ao116 y408.length co116)) (fun _ hk => trivial)⟩, ⟨by refine blk_far ?_ NB384_393.out _; exact BK384.out⟩, ⟨by refine blk_far ?_ NB385_393.out _; exact BK385.out⟩, ⟨by refine blk_put (cs := #[.slice Ao110 x394000_1.length co110]) ?_ 0 _ rfl; exact BK393.out⟩, ⟨by repeat (first | (with_reducible first | exact HB.out | apply below_alloc | apply pw_below_drewN | apply below_drew1 | refine below_set ?_ GE384.out | refine below_set ?_ GE385.out | refine below_set ?_ GE393.out | refine below_set ?_ GE395.out | refine below_set ?_ GE397.out) | exact HB.out)⟩⟩
         ·
          rw [if_neg c90] at H
          exact absurd H (by simp)
        ·
         rw [if_neg c88] at H
         exact absurd H (by simp)
      ·
       replace c22 := Bool.eq_false_iff.mpr c22
       subst c22
       have H1 : (impl_Trie_press.l0 k1 t386 x6_1 l0_0 (l0_0.length : Int) (wrap64 (x24_1 + 1)) l0_0 x394000_1) = some r := by rw [if_neg (show ¬ (false = true) by decide)] at H; exact H
       clear H
       have H := H1
       clear H1
       have H' := aM_ H
       clear H
       have p394 : 0 ≤ (x24_1 : Int) := of_decide_eq_true (by (with_reducible assumption))
       have q394 : x24_1 < (l0_0.length : Int) := of_decide_eq_true (by (with_reducible assumption))
       obtain ⟨ad394, e394, hx394_0, hx394_1, hx394_2⟩ := at_T73 HR0_0.out x24_1 p394 q394
       cases e394
       replace hx394_0 := (HB.out.cell (World.block_lt_of_cell? w _ hx394_0)).trans hx394_0
       replace hx394_1 := (HB.out.cell (World.block_lt_of_cell? w _ hx394_1)).trans hx394_1
       replace hx394_2 := (HB.out.cell (World.block_lt_of_cell? w _ hx394_2)).trans hx394_2
       replace p394 := eq_true p394
       replace q394 := eq_true q394
       go_wp2_with (first | ((with_reducible refine gate_dst (N := 8) rfl ?_); refine box_event ?hg (N := 8) ?hd (cs := #[.int .i64 0, .int .i64 0, .bool false]) (t := 73) ?hr ?_; (case hd => rfl); (case hg => rfl); (case hr => (go_simp; done)); intro gb395 hg w118 hbox hb; replace HO_3 := aM_ (Kd.R_below HO_3.out hb); replace HO_6 := aM_ (Kd.R_below HO_6.out hb); replace HO_394000 := aM_ (Kd.R_below HO_394000.out hb); have BK395 := aM_ (hbox); have GW395 := aM_ ((by rw [hg]; exact (below_size HB.out) : w.heap.size ≤ gb395)); have GE395 := GW395; replace HB := aM_ (below_step HB.out hb); have NB384_395 := aM_ ((by rw [hg]; exact Nat.ne_of_lt (blk_lt BK384.out) : gb384 ≠ gb395)); have NB395_384 := aM_ NB384_395.out.symm; replace BK384 := aM_ (blk_below BK384.out hb); have NB385_395 := aM_ ((by rw [hg]; exact Nat.ne_of_lt (blk_lt BK385.out) : gb385 ≠ gb395)); have NB395_385 := aM_ NB385_395.out.symm; replace BK385 := aM_ (blk_below BK385.out hb); have NB393_395 := aM_ ((by rw [hg]; exact Nat.ne_of_lt (blk_lt BK393.out) : gb393 ≠ gb395)); have NB395_393 := aM_ NB393_395.out.symm; replace BK393 := aM_ (blk_below BK393.out hb); clear hb hbox hg; have hnb119 := NB395_384.out; have hnc119 := NB384_395.out; have hnb120 := NB395_385.out; have hnc120 := NB385_395.out; have hnb121 := NB395_393.out; have hnc121 := NB393_395.out; have hcz122_0 : w118.cell? ⟨gb395, 0, none⟩ = some (.int .i64 0) := (blk_cell BK395.out 0).trans rfl; have hcz122_1 : w118.cell? ⟨gb395, 1, none⟩ = some (.int .i64 0) := (blk_cell BK395.out 1).trans rfl; have hcz122_2 : w118.cell? ⟨gb395, 2, none⟩ = some (.bool false) := (blk_cell BK395.out 2).trans rfl; have hfz122_0 := blk_frozen BK395.out 0; have hfz122_1 := blk_frozen BK395.out 1; have hfz122_2 := blk_frozen BK395.out 2; have hnb123 := NB384_385.out; have hnc123 := NB385_384.out; have hnb124 := NB384_393.out; have hnc124 := NB393_384.out; have hcz125_0 : w118.cell? ⟨gb384, 0, none⟩ = some (.slice (some ad394) l0_0.length c0_0) := (blk_cell BK384.out 0).trans rfl; have hfz125_0 := blk_frozen BK384.out 0) | ((with_reducible refine gate_callee (f := 57) rfl ?_); refine goesL_ (some 31) rfl rfl Tryd.func57 (by kernel_rfl) rfl #[.agg #[.slice (some ad394) l0_0.length c0_0], .int .i64 x24_1] rfl (by (try simp only [sD_, sE_, sF_]); rfl) ?_; (with_reducible refine (impl_Trie_stays.calls k1 _ _ l0_0 x24_1 false _ ?side1 ?side2 A21.out).mono ?_); (case side1 => exact Kd.C_below HR0_0.out (by repeat (first | (with_reducible first | exact HB.out | apply below_alloc | apply pw_below_drewN | apply below_drew1 | refine below_set ?_ GE384.out | refine below_set ?_ GE385.out | refine below_set ?_ GE393.out | refine below_set ?_ GE395.out) | exact HB.out))); (case side2 => exact HC0_0.out); rintro e w126 ⟨rfl, hb⟩; refine ⟨_, rfl, ?_⟩; replace HO_3 := aM_ (Kd.R_below (by exact (Kd.R_mono (Kd.R_far (p := ⟨gb395, 2, none⟩) (Kd.R_far (p := ⟨gb395, 1, none⟩) (Kd.R_far (p := ⟨gb395, 0, none⟩) (Kd.R_types HO_3.out BK395.out (by decide)) (fun _ hk => hk.2) (.int .i64 ((rd_T73 l0_0 x24_1).f0))) (fun _ hk => hk.2) (.int .i64 ((rd_T73 l0_0 x24_1).f1))) (fun _ hk => hk.2) (.bool ((rd_T73 l0_0 x24_1).f2))) (fun _ h_ => h_.1))) hb); replace HO_6 := aM_ (Kd.R_below (by exact (Kd.R_mono (Kd.R_far (p := ⟨gb395, 2, none⟩) (Kd.R_far (p := ⟨gb395, 1, none⟩) (Kd.R_far (p := ⟨gb395, 0, none⟩) (Kd.R_types HO_6.out BK395.out (by decide)) (fun _ hk => hk.2) (.int .i64 ((rd_T73 l0_0 x24_1).f0))) (fun _ hk => hk.2) (.int .i64 ((rd_T73 l0_0 x24_1).f1))) (fun _ hk => hk.2) (.bool ((rd_T73 l0_0 x24_1).f2))) (fun _ h_ => h_.1))) hb); replace HO_394000 := aM_ (Kd.R_below (by exact (Kd.R_mono (Kd.R_far (p := ⟨gb395, 2, none⟩) (Kd.R_far (p := ⟨gb395, 1, none⟩) (Kd.R_far (p := ⟨gb395, 0, none⟩) (Kd.R_types HO_394000.out BK395.out (by decide)) (fun _ hk => hk.2) (.int .i64 ((rd_T73 l0_0 x24_1).f0))) (fun _ hk => hk.2) (.int .i64 ((rd_T73 l0_0 x24_1).f1))) (fun _ hk => hk.2) (.bool ((rd_T73 l0_0 x24_1).f2))) (fun _ h_ => h_.1))) hb); replace BK384 := aM_ (blk_below (g := gb384) (o := .cells #[.slice (some ad394) l0_0.length c0_0] 44 (0, 0)) (by refine blk_far ?_ NB384_395.out _; refine blk_far ?_ NB384_395.out _; refine blk_far ?_ NB384_395.out _; exact BK384.out) hb); replace BK385 := aM_ (blk_below (g := gb385) (o := .cells #[.slice none 0 0] 29 (0, 0)) (by refine blk_far ?_ NB385_395.out _; refine blk_far ?_ NB385_395.out _; refine blk_far ?_ NB385_395.out _; exact BK385.out) hb); replace BK393 := aM_ (blk_below (g := gb393) (o := .cells #[u394000] 29 (0, 0)) (by refine blk_far ?_ NB393_395.out _; refine blk_far ?_ NB393_395.out _; refine blk_far ?_ NB393_395.out _; exact BK393.out) hb); replace BK395 := aM_ (blk_below (g := gb395) (o := .cells #[.int .i64 ((rd_T73 l0_0 x24_1).f0), .int .i64 ((rd_T73 l0_0 x24_1).f1), .bool ((rd_T73 l0_0 x24_1).f2)] 73 (0, 0)) (by refine blk_put (cs := #[.int .i64 ((rd_T73 l0_0 x24_1).f0), .int .i64 ((rd_T73 l0_0 x24_1).f1), .bool false]) ?_ 2 _ rfl; refine blk_put (cs := #[.int .i64 ((rd_T73 l0_0 x24_1).f0), .int .i64 0, .bool false]) ?_ 1 _ rfl; refine blk_put (cs := #[.int .i64 0, .int .i64 0, .bool false]) ?_ 0 _ rfl; exact BK395.out) hb); replace HB := aM_ (below_step (by repeat (first | (with_reducible first | exact HB.out | apply below_alloc | apply pw_below_drewN | apply below_drew1 | refine below_set ?_ GE384.out | refine below_set ?_ GE385.out | refine below_set ?_ GE393.out | refine below_set ?_ GE395.out) | exact HB.out)) hb); (try clear hb); (try clear hb2); (try clear hk); (try clear hi)))
       go_roundg k1
       case measure => have := HK1.out; omega
       case rel => exact ⟨(x6_1), (wrap64 (x24_1 + 1)), (x394000_1), (u394000), (by rfl), H', ⟨by have := HK1.out; omega⟩, ⟨HO_3.out⟩, ⟨HO_6.out⟩, ⟨HO_394000.out⟩, ⟨BK384.out⟩, ⟨BK385.out⟩, ⟨BK393.out⟩, ⟨HB.out⟩⟩
     ·
      rw [if_neg c20] at H
      exact absurd H (by simp)
    ·
     rw [if_neg c19] at H
     exact absurd H (by simp)
   ·
    rw [if_neg c18] at H
    have c18b0 := decide_eq_false c18
    clear c18
    obtain rfl := Option.some.inj H
    have hnb127 := NB393_384.out
    have hnc127 := NB384_393.out
    have hnb128 := NB393_385.out
    have hnc128 := NB385_393.out
    have hcz129_0 : wr.cell? ⟨gb393, 0, none⟩ = some (u394000) := (blk_cell BK393.out 0).trans rfl
    have hfz129_0 := blk_frozen BK393.out 0
    obtain ⟨Ao130, co130, eo130⟩ := Kd.R_slice HO_394000.out
    subst eo130
    have hnb131 := NB385_384.out
    have hnc131 := NB384_385.out
    have hcz132_0 : wr.cell? ⟨gb385, 0, none⟩ = some (.slice none 0 0) := (blk_cell BK385.out 0).trans rfl
    have hfz132_0 := blk_frozen BK385.out 0
    go_wp2
    refine bodyPost_ret (results_cell_row rfl _ _ gb385 29 #[.slice Ao130 x394000_1.length co130] (0, 0) _ rfl (by refine blk_put (cs := #[.slice none 0 0]) ?_ 0 _ rfl; exact BK385.out) Tryd.underlying29 rfl (by kernel_rfl)) rfl ?_
    exact ⟨_, by rfl, by exact Kd.R_mono (Kd.R_far (p := ⟨gb385, 0, none⟩) (Kd.R_types HO_394000.out BK385.out (by decide)) (fun _ hk => hk.2) (.slice Ao130 x394000_1.length co130)) (fun _ hk => trivial), by repeat (first | (with_reducible first | exact HB.out | apply below_alloc | apply pw_below_drewN | apply below_drew1 | refine below_set ?_ GE384.out | refine below_set ?_ GE385.out | refine below_set ?_ GE393.out) | exact HB.out)⟩
end Go.Proofs.YtfhffcefpnkllaaDoor.P
