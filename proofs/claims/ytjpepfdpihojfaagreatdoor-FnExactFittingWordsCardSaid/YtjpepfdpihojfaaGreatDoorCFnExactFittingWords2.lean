/-
  Part 3 of the proof that FnExactFittingWords returns true for every input: the functions that it reaches, each with its contract, and the law.
  Conditions: those of the given statement, no others.
-/
import Derived.Test.YtjpepfdpihojfaaGreatDoorCFnExactFittingWordsW0
import Derived.Shelf.Abstract
import Derived.Test.YtjpepfdpihojfaaGreatDoorProg
import Derived.Ground.NamesProg
import Derived.Shelf.Strings.SlTrimAscii
import Derived.Defers
import Derived.Laws.Pointers
import Derived.Laws.LoneSync
import Derived.RegionCalls
import Derived.Laws.NewBlocks
import Derived.WalkSpells
import Derived.Laws.IdiomStrings
import Derived.Laws.IdiomCopy
import Derived.Test.YtjpepfdpihojfaaGreatDoorCFnExactFittingWords0
import Derived.Test.YtjpepfdpihojfaaGreatDoorCFnExactFittingWords1
set_option linter.unusedVariables false
set_option linter.unusedSimpArgs false
set_option maxHeartbeats 8000000
set_option maxRecDepth 100000
namespace Go.Proofs.YtjpepfdpihojfaaGreatDoor.P
open Go.RowKit Go.Proofs.YtjpepfdpihojfaaGreatDoorW.PrintWords Go.Proofs.YtjpepfdpihojfaaGreatDoorW.PrintLast Go.Proofs.YtjpepfdpihojfaaGreatDoorW.PrintMore
attribute [local go_sem] max2_int min2_int max_two min_two max_three min_three max_four min_four
mutual
def iF19.l0 : Nat → List ByteArray → List ByteArray → List ByteArray → Int → Int → Option ((List (S53)))
 | 0, _, _, _, _, _ => none
 | k + 1, x0, x3, x15, x16, x17 => if x17 < x16 then (if 0 ≤ x17 then (if x17 < (x15.length : Int) then (iF19.l1 k x0 x3 (rdOf ByteArray.empty x15 x17) x15 x16 x17 ((rdOf ByteArray.empty x15 x17).size : Int) 0) else (none)) else (none)) else ((iF18.f x3).bind fun t318 => (if SM.okL t318 = true then (iF19.l2 k x0 t318 (t318.length : Int) 0 ([] : List (S53))) else none))
def iF19.l1 : Nat → List ByteArray → List ByteArray → ByteArray → List ByteArray → Int → Int → Int → Int → Option ((List (S53)))
 | 0, _, _, _, _, _, _, _, _ => none
 | k + 1, x0, x3, x5, x15, x16, x17, x22, x23 => if x23 < x22 then (if 0 ≤ (wrap64 (x23 + 1)) then (if (wrap64 (x23 + 1)) ≤ (x5.size : Int) then (if x3.length < 8796093022208 then (iF19.l1 k x0 (x3 ++ [x5.extract 0 ((wrap64 (x23 + 1)) : Int).toNat]) x5 x15 x16 x17 x22 (wrap64 (x23 + 1))) else (none)) else (none)) else (none)) else (iF19.l0 k x0 x3 x15 x16 (wrap64 (x17 + 1)))
def iF19.l2 : Nat → List ByteArray → List ByteArray → Int → Int → List (S53) → Option ((List (S53)))
 | 0, _, _, _, _, _ => none
 | k + 1, x0, x39, x40, x41, x322000 => if x41 < x40 then (if 0 ≤ x41 then (if x41 < (x39.length : Int) then ((xF35.f k x0 (rdOf ByteArray.empty x39 x41)).bind fun bt323 => (if (rdOf ByteArray.empty x39 x41).toList = ([] : List UInt8) then (if x322000.length < 5864062014805 then (iF19.l2 k x0 x39 x40 (wrap64 (x41 + 1)) (x322000 ++ [(⟨(-1), (-1), bt323.2⟩ : S53)])) else (none)) else (if 0 ≤ (wrap64 (((rdOf ByteArray.empty x39 x41).size : Int) - 1)) then (if (wrap64 (((rdOf ByteArray.empty x39 x41).size : Int) - 1)) < ((rdOf ByteArray.empty x39 x41).size : Int) then (if (wrap64 (((rdOf ByteArray.empty x39 x41).size : Int) - 1)) ≤ ((rdOf ByteArray.empty x39 x41).size : Int) then (if x322000.length < 5864062014805 then (iF19.l2 k x0 x39 x40 (wrap64 (x41 + 1)) (x322000 ++ [(⟨((bt (rdOf ByteArray.empty x39 x41) (wrap64 (((rdOf ByteArray.empty x39 x41).size : Int) - 1))) - 97) % 256, SM.at_ (List.take ((x41 : Int).toNat + 1) x39) ((rdOf ByteArray.empty x39 x41).extract 0 ((wrap64 (((rdOf ByteArray.empty x39 x41).size : Int) - 1)) : Int).toNat), bt323.2⟩ : S53)])) else (none)) else (none)) else (none)) else (none)))) else (none)) else (none)) else (some x322000)
end
def iF19.f (k : Nat) (l0 : List ByteArray) : Option ((List (S53))) := iF19.l0 k l0 (([(⟨#[]⟩ : ByteArray)] : List ByteArray)) l0 (l0.length : Int) 0
theorem iF19.mono_l : ∀ k, (∀ y0 y1 y2 y3 y4, LeO (iF19.l0 k y0 y1 y2 y3 y4) (iF19.l0 (k + 1) y0 y1 y2 y3 y4)) ∧ (∀ y0 y1 y2 y3 y4 y5 y6 y7, LeO (iF19.l1 k y0 y1 y2 y3 y4 y5 y6 y7) (iF19.l1 (k + 1) y0 y1 y2 y3 y4 y5 y6 y7)) ∧ (∀ y0 y1 y2 y3 y4, LeO (iF19.l2 k y0 y1 y2 y3 y4) (iF19.l2 (k + 1) y0 y1 y2 y3 y4))
 | 0 => ⟨fun _ _ _ _ _ r h => by simp [iF19.l0] at h, fun _ _ _ _ _ _ _ _ r h => by simp [iF19.l1] at h, fun _ _ _ _ _ r h => by simp [iF19.l2] at h⟩
 | k + 1 => by
  obtain ⟨ih0, ih1, ih2⟩ := iF19.mono_l k
  refine ⟨?_, ?_, ?_⟩
  ·
   intro y0 y1 y2 y3 y4
   unfold iF19.l0
   repeat' with_reducible first | exact ih0 _ _ _ _ _ | exact ih1 _ _ _ _ _ _ _ _ | exact ih2 _ _ _ _ _ | exact xF35.mono _ _ _ | exact LeO.refl _ | exact LeO.none _ | refine LeO.ite ?_ ?_ | refine LeO.bind ?_ (fun _ => ?_)
  ·
   intro y0 y1 y2 y3 y4 y5 y6 y7
   unfold iF19.l1
   repeat' with_reducible first | exact ih0 _ _ _ _ _ | exact ih1 _ _ _ _ _ _ _ _ | exact ih2 _ _ _ _ _ | exact xF35.mono _ _ _ | exact LeO.refl _ | exact LeO.none _ | refine LeO.ite ?_ ?_ | refine LeO.bind ?_ (fun _ => ?_)
  intro y0 y1 y2 y3 y4
  unfold iF19.l2
  repeat' with_reducible first | exact ih0 _ _ _ _ _ | exact ih1 _ _ _ _ _ _ _ _ | exact ih2 _ _ _ _ _ | exact xF35.mono _ _ _ | exact LeO.refl _ | exact LeO.none _ | refine LeO.ite ?_ ?_ | refine LeO.bind ?_ (fun _ => ?_)
theorem iF19.mono : ∀ a0 k, LeO (iF19.f k a0) (iF19.f (k + 1) a0) := by
 intro a0 k
 obtain ⟨ih0, ih1, ih2⟩ := iF19.mono_l k
 unfold iF19.f
 repeat' with_reducible first | exact ih0 _ _ _ _ _ | exact ih1 _ _ _ _ _ _ _ _ | exact ih2 _ _ _ _ _ | exact xF35.mono _ _ _ | exact LeO.refl _ | exact LeO.none _ | refine LeO.ite ?_ ?_ | refine LeO.bind ?_ (fun _ => ?_)
def iF19.T20 : Bool × List (List Nat × List Nat) := (true, [([], []), ([], []), ([1], [1]), ([2], [2]), ([0, 3], [0, 3]), ([4], [4]), ([5], [5]), ([], []), ([], []), ([], []), ([9], [9]), ([10], [10]), ([8, 11], [8, 11]), ([7, 12], [7, 12]), ([0, 1, 2, 3, 4, 5, 6], []), ([14, 6, 0, 1, 2, 3, 4, 5, 6], [6, 14]), ([0, 1, 2, 3, 4, 5, 6, 7, 8, 9, 10, 11, 12, 13, 14, 15], []), ([16, 13, 15, 0, 1, 2, 3, 4, 5, 6, 7, 8, 9, 10, 11, 12, 13, 14, 15], [13, 16])])
def iF19.B20 : List Nat := [0, 0, 2, 6, 15, 31, 63, 0, 0, 0, 512, 1536, 3840, 8064, 127, 16511, 65535, 131071]
theorem iF19.tab20 : rtab .any (opsOf Tryz.f39 20) = iF19.T20 := by kernel_rfl
theorem iF19.bits20 : waitsOk iF19.T20.2 iF19.B20 = true := by kernel_rfl
set_option maxHeartbeats 60000000 in
theorem iF19.calls (k : Nat) (A0 : Option Addr) (c0 : Nat) (l0 : List ByteArray) (r : List (S53)) (w : World) (hr0 : Kd.C Kd.string w A0 l0.length l0) (hc0 : l0.length ≤ c0) (h : iF19.f k l0 = some r) :
  Calls Tryz.prog 39 #[.slice A0 l0.length c0] w fun e w' => ∃ v0_ : Value, e = .returned (.agg #[v0_]) ∧ Kd.R k53 53 w' w.heap.size (fun _ => True) v0_ r ∧ Below w.heap.size w w' := by
 have hu31 := Tryz.underlying31
 have hu53 := Tryz.underlying53
 have HR0 := Aside0.mk hr0
 have HC0 := Aside0.mk hc0
 clear hr0 hc0
 have HB := Aside0.mk (Below.refl w.heap.size w)
 have H : (iF19.l0 k l0 (([(⟨#[]⟩ : ByteArray)] : List ByteArray)) l0 (l0.length : Int) 0) = some r := h
 clear h
 obtain ⟨y311, hy311⟩ : ∃ y_ : List ByteArray, y_ = (([(⟨#[]⟩ : ByteArray)] : List ByteArray)) := ⟨_, rfl⟩
 replace H : (iF19.l0 k l0 y311 l0 (l0.length : Int) 0) = some r := by (try rw [hy311]); first | with_reducible exact H | with_reducible exact oS_ H | exact H
 have Ny311 := Aside0.mk hy311
 clear hy311
 have H' := Aside0.mk H
 clear H
 go_enter Tryz.func39, Tryz.ntmps39
 go_wp2_with (first | ((with_reducible refine gate_dst (N := 2) rfl ?_); refine box_event ?hg (N := 2) ?hd (cs := #[.slice none 0 0]) (t := 31) ?hr ?_; (case hd => rfl); (case hg => rfl); (case hr => first | (go_simp; done) | (go_simp; rfl)); intro gb310 hg w2 hbox hb; have n0_ := Aside0.mk (below_step (by repeat (first | (with_reducible first | exact HB.out | apply below_alloc | apply pw_below_drewN | apply below_drew1) | exact HB.out)) hb); have n1_ := Aside0.mk (hbox); have n2_ := Aside0.mk ((by rw [hg]; exact (below_size (by repeat (first | (with_reducible first | exact HB.out | apply below_alloc | apply pw_below_drewN | apply below_drew1) | exact HB.out))) : w.heap.size ≤ gb310)); have n3_ := Aside0.mk ((by rw [hg]; exact (below_size (by repeat (first | (with_reducible first | exact HB.out | apply below_alloc | apply pw_below_drewN | apply below_drew1) | exact HB.out))) : w.heap.size ≤ gb310)); clear HB; have HB := n0_; have BK310 := n1_; have GW310 := n2_; have GW310 := n3_; clear n0_ n1_ n2_ n3_; clear hb hbox hg) | ((with_reducible refine gate_dst (N := 14) rfl ?_); refine Kd.R_lit Kd.string _ 9 ?hg (N := 14) ?hd (xs := ([(⟨#[]⟩ : ByteArray)] : List ByteArray)) (inner := [.string (⟨#[]⟩ : ByteArray)]) (ok := fun _ => True) (okp := fun _ => True) ?hr ?hp (fun _ hk => hk) trivial (Below.refl _ _) (Nat.le_refl _) (by simp) ?_; (case hd => rfl); (case hg => rfl); (case hr => first | (go_simp; done) | (go_simp; rfl)); (case hp => exact (Reps.one (show Kd.M Kd.string _ _ _ (⟨#[]⟩ : ByteArray) [.string (⟨#[]⟩ : ByteArray)] from rfl) (Reps.none _ _))); intro v312 w3 ho4 hb hg_ hnew_; clear hg_ hnew_; (first | rw [← Ny311.out] at ho4 | (simp only [Int.reduceToNat] at ho4; rw [← Ny311.out] at ho4)); have n0_ := Aside0.mk (Kd.R_lower ho4 (below_size (by repeat (first | (with_reducible first | exact HB.out | apply below_alloc | apply pw_below_drewN | apply below_drew1 | refine below_set ?_ GW310.out) | exact HB.out)))); have n1_ := Aside0.mk (blk_below (g := gb310) (o := .cells #[.slice none 0 0] 31 (0, 0)) (by (with_reducible repeat (first | refine blk_drewN ?_ _ | refine blk_drew ?_ | refine blk_alloc ?_ _)); exact BK310.out) hb); have n2_ := Aside0.mk (below_step (by repeat (first | (with_reducible first | exact HB.out | apply below_alloc | apply pw_below_drewN | apply below_drew1 | refine below_set ?_ GW310.out) | exact HB.out)) hb); clear BK310; clear HB; have HO313 := n0_; have BK310 := n1_; have HB := n2_; clear n0_ n1_ n2_; clear hb ho4))
 go_loopg [3, 17] k (fun kq v3 v17 w' => ∃ (x3_1 : List ByteArray) (x17_1 : Int), v17 = .int .i64 x17_1 ∧ Aside0 (iF19.l0 kq l0 x3_1 l0 (l0.length : Int) x17_1 = some r) ∧ Aside0 (kq ≤ k) ∧ Aside0 (Kd.R Kd.string 9 w' w.heap.size (fun _ => True) v3 x3_1) ∧ Aside0 (w'.heap[gb310]? = some (.cells #[(.slice none 0 0)] 31 (0, 0))) ∧ Aside0 (Below w.heap.size w w'))
 case atStart => exact ⟨(y311), (0), (by first | rfl | (simp; done) | (simp [*]; done)), H', ⟨Nat.le_refl _⟩, ⟨by (with_reducible repeat (first | apply Kd.R_alloc | apply Kd.R_drewN | apply Kd.R_drew)); exact HO313.out⟩, ⟨by (with_reducible repeat (first | refine blk_drewN ?_ _ | refine blk_drew ?_ | refine blk_alloc ?_ _)); exact BK310.out⟩, ⟨by repeat (first | (with_reducible first | exact HB.out | apply below_alloc | apply pw_below_drewN | apply below_drew1 | refine below_set ?_ GW310.out) | exact HB.out)⟩⟩
 clear H'
 try clear p2
 try clear c3
 obtain ⟨x3_1, x17_1, rfl, HA, HK1, HO_3, BK310, HB⟩ := hrel
 cases gk with
 | zero => exact absurd HA.out (by simp [iF19.l0])
 | succ k1 =>
  have H := HA.out
  clear HA
  simp only [iF19.l0] at H
  by_cases c5 : x17_1 < (l0.length : Int)
  ·
   rw [if_pos c5] at H
   have c5b0 : decide (x17_1 < (l0.length : Int)) = true := dT_ c5
   clear c5
   by_cases c6 : 0 ≤ x17_1
   rotate_left
   ·
    rw [if_neg c6] at H
    exact absurd H (by simp)
   rw [if_pos c6] at H
   have c6b0 : decide (0 ≤ x17_1) = true := dT_ c6
   clear c6
   by_cases c7 : x17_1 < (l0.length : Int)
   rotate_left
   ·
    rw [if_neg c7] at H
    exact absurd H (by simp)
   rw [if_pos c7] at H
   have c7b0 : decide (x17_1 < (l0.length : Int)) = true := dT_ c7
   clear c7
   have H' := Aside0.mk H
   clear H
   have p314 : 0 ≤ (x17_1 : Int) := oD_ (by first | (with_reducible assumption) | assumption)
   have q314 : x17_1 < (l0.length : Int) := oD_ (by first | (with_reducible assumption) | assumption)
   obtain ⟨ad314, e314, hx314_0⟩ := Kd.at_string HR0.out x17_1 p314 q314
   cases e314
   replace hx314_0 := (HB.out.cell (World.block_lt_of_cell? w _ hx314_0)).trans hx314_0
   replace p314 := eq_true p314
   replace q314 := eq_true q314
   go_wp2
   go_loopg [3, 23] k1 (fun kq v3 v23 w' => ∃ (x3_2 : List ByteArray) (x23_2 : Int), v23 = .int .i64 x23_2 ∧ Aside0 (iF19.l1 kq l0 x3_2 (rdOf ByteArray.empty l0 x17_1) l0 (l0.length : Int) x17_1 ((rdOf ByteArray.empty l0 x17_1).size : Int) x23_2 = some r) ∧ Aside0 (kq ≤ k1) ∧ Aside0 (Kd.R Kd.string 9 w' w.heap.size (fun _ => True) v3 x3_2) ∧ Aside0 (w'.heap[gb310]? = some (.cells #[(.slice none 0 0)] 31 (0, 0))) ∧ Aside0 (Below w.heap.size w w'))
   case atStart => exact ⟨(x3_1), (0), (by first | rfl | (simp; done) | (simp [*]; done)), H', ⟨Nat.le_refl _⟩, ⟨by (with_reducible repeat (first | apply Kd.R_alloc | apply Kd.R_drewN | apply Kd.R_drew)); exact HO_3.out⟩, ⟨by (with_reducible repeat (first | refine blk_drewN ?_ _ | refine blk_drew ?_ | refine blk_alloc ?_ _)); exact BK310.out⟩, ⟨by repeat (first | (with_reducible first | exact HB.out | apply below_alloc | apply pw_below_drewN | apply below_drew1 | refine below_set ?_ GW310.out) | exact HB.out)⟩⟩
   clear H'
   try clear p2
   try clear c3
   try clear p3
   try clear q3
   try clear hx3
   try clear c5
   try clear c5b0
   try clear c6
   try clear c6b0
   try clear c7
   try clear c7b0
   try clear hx314_0
   try clear p2
   try clear p314
   try clear q314
   obtain ⟨x3_2, x23_2, rfl, HA, HK2, HO_3, BK310, HB⟩ := hrel
   cases gk with
   | zero => exact absurd HA.out (by simp [iF19.l1])
   | succ k2 =>
    have H := HA.out
    clear HA
    simp only [iF19.l1] at H
    by_cases c8 : x23_2 < ((rdOf ByteArray.empty l0 x17_1).size : Int)
    rotate_left
    ·
     rw [if_neg c8] at H
     have c8b0 : decide (x23_2 < ((rdOf ByteArray.empty l0 x17_1).size : Int)) = false := dF_ c8
     clear c8
     have H' := Aside0.mk H
     clear H
     go_wp2
     go_roundg k2
     case measure => have := HK1.out; have := HK2.out; omega
     case rel => exact ⟨(x3_2), (wrap64 (x17_1 + 1)), (by first | rfl | (simp; done) | (simp [*]; done)), H', ⟨by have := HK1.out; have := HK2.out; omega⟩, ⟨by (with_reducible repeat (first | apply Kd.R_alloc | apply Kd.R_drewN | apply Kd.R_drew)); exact HO_3.out⟩, ⟨by (with_reducible repeat (first | refine blk_drewN ?_ _ | refine blk_drew ?_ | refine blk_alloc ?_ _)); exact BK310.out⟩, ⟨by repeat (first | (with_reducible first | exact HB.out | apply below_alloc | apply pw_below_drewN | apply below_drew1 | refine below_set ?_ GW310.out) | exact HB.out)⟩⟩
    rw [if_pos c8] at H
    have c8b0 : decide (x23_2 < ((rdOf ByteArray.empty l0 x17_1).size : Int)) = true := dT_ c8
    clear c8
    obtain ⟨ji9, hji9⟩ : ∃ j_ : Int, (wrap64 (x23_2 + 1)) = j_ := ⟨_, rfl⟩
    replace H : (if 0 ≤ (ji9) then (if (ji9) ≤ ((rdOf ByteArray.empty l0 x17_1).size : Int) then (if x3_2.length < 8796093022208 then (iF19.l1 k2 l0 (x3_2 ++ [(rdOf ByteArray.empty l0 x17_1).extract 0 ((ji9) : Int).toNat]) (rdOf ByteArray.empty l0 x17_1) l0 (l0.length : Int) x17_1 ((rdOf ByteArray.empty l0 x17_1).size : Int) ji9) else (none)) else (none)) else (none)) = some r := by first | (rw [hji9] at H; exact H) | (simp only [hji9] at H ⊢; exact H)
    have hji9w : (IntKind.i64.wrap (x23_2 + 1)) = ji9 := (i64_w _).trans hji9
    by_cases c10 : 0 ≤ (ji9)
    rotate_left
    ·
     rw [if_neg c10] at H
     exact absurd H (by simp)
    rw [if_pos c10] at H
    have c10b0 := eq_true c10
    have c10b1 : decide (0 ≤ (ji9)) = true := dT_ c10
    clear c10
    by_cases c11 : (ji9) ≤ ((rdOf ByteArray.empty l0 x17_1).size : Int)
    rotate_left
    ·
     rw [if_neg c11] at H
     exact absurd H (by simp)
    rw [if_pos c11] at H
    have c11b0 := eq_true c11
    have c11b1 : decide ((ji9) ≤ ((rdOf ByteArray.empty l0 x17_1).size : Int)) = true := dT_ c11
    clear c11
    by_cases c12 : x3_2.length < 8796093022208
    ·
     rw [if_pos c12] at H
     have LMc12 := Aside0.mk c12
     clear c12
     obtain ⟨y315, hy315⟩ : ∃ y_ : List ByteArray, y_ = (x3_2 ++ [(rdOf ByteArray.empty l0 x17_1).extract 0 ((ji9) : Int).toNat]) := ⟨_, rfl⟩
     replace H : (iF19.l1 k2 l0 y315 (rdOf ByteArray.empty l0 x17_1) l0 (l0.length : Int) x17_1 ((rdOf ByteArray.empty l0 x17_1).size : Int) ji9) = some r := by (try rw [hy315]); first | with_reducible exact H | with_reducible exact oS_ H | exact H
     have Ny315 := Aside0.mk hy315
     clear hy315
     have H' := Aside0.mk H
     clear H
     go_wp2_with (first | ((with_reducible refine gate_builtin (b := .append) (xs := #[.tmp 26, .tmp 31]) rfl ?_); at_builtin; refine Kd.R_append Kd.string (w0 := w) w.heap.size rfl (.tmp 26) (.tmp 31) 26 9 (.string ⟨#[]⟩) 16 rfl Tryz.underlying26 info9 rfl (by decide) (by omega) u3 x3_2 ((rdOf ByteArray.empty l0 x17_1).extract 0 ((ji9) : Int).toNat) [.string ((rdOf ByteArray.empty l0 x17_1).extract 0 ((ji9) : Int).toNat)] (fun _ => True) (fun _ => False) rfl rfl ?aP (fun _ hk => hk.elim) ?aF ?aO ?aB ?aS ?aL ?_; (case aP => exact rfl); (case aB => exact (by repeat (first | (with_reducible first | exact HB.out | apply below_alloc | apply pw_below_drewN | apply below_drew1 | refine below_set ?_ GW310.out) | exact HB.out))); (case aF => exact (fun _ _ => trivial)); (case aO => exact (by (with_reducible repeat (first | apply Kd.R_alloc | apply Kd.R_drewN | apply Kd.R_drew)); exact HO_3.out)); (case aS => exact (below_size (by repeat (first | (with_reducible first | exact HB.out | apply below_alloc | apply pw_below_drewN | apply below_drew1 | refine below_set ?_ GW310.out) | exact HB.out)))); (case aL => have := LMc12.out; omega); intro v316 w13 ho hb hg hat; rw [← Ny315.out] at ho; have n0_ := Aside0.mk (blk_grown (g := gb310) (o := .cells #[.slice none 0 0] 31 (0, 0)) (by (with_reducible repeat (first | refine blk_drewN ?_ _ | refine blk_drew ?_ | refine blk_alloc ?_ _)); exact BK310.out) hg (Kd.R_ne HO_3.out BK310.out (by decide))); have n1_ := Aside0.mk (hb); have n2_ := Aside0.mk (ho); clear BK310; clear HB; clear HO_3; have BK310 := n0_; have HB := n1_; have HO317 := n2_; clear n0_ n1_ n2_; clear ho hb hg hat))
     go_roundg k2
     case measure => have := HK1.out; have := HK2.out; omega
     case rel => exact ⟨(y315), (ji9), (by first | rfl | (simp; done) | (simp only [← hji9] <;> (first | rfl | simp)) | (simp [*]; done)), H', ⟨by have := HK1.out; have := HK2.out; omega⟩, ⟨by (with_reducible repeat (first | apply Kd.R_alloc | apply Kd.R_drewN | apply Kd.R_drew)); exact HO317.out⟩, ⟨by (with_reducible repeat (first | refine blk_drewN ?_ _ | refine blk_drew ?_ | refine blk_alloc ?_ _)); exact BK310.out⟩, ⟨by repeat (first | (with_reducible first | exact HB.out | apply below_alloc | apply pw_below_drewN | apply below_drew1 | refine below_set ?_ GW310.out) | exact HB.out)⟩⟩
    rw [if_neg c12] at H
    exact absurd H (by simp)
  rw [if_neg c5] at H
  have c5b0 : decide (x17_1 < (l0.length : Int)) = false := dF_ c5
  clear c5
  replace H := Option.bind_eq_some_iff.mp H
  obtain ⟨t318, A140, H⟩ := H
  replace H : (if SM.okL t318 = true then (iF19.l2 k1 l0 t318 (t318.length : Int) 0 ([] : List (S53))) else none) = some r := H
  have hsz_ : SM.okL t318 = true := by
   by_cases h_ : SM.okL t318 = true
   ·
    exact h_
   rw [if_neg h_] at H; cases H
  rw [if_pos hsz_] at H
  have HSZ := Aside0.mk hsz_
  clear hsz_
  have A14 := Aside0.mk A140
  clear A140
  have H' := Aside0.mk H
  clear H
  obtain ⟨Ao15, co15, eo15⟩ := Kd.R_slice HO_3.out
  subst eo15
  go_wp2_with (first | ((with_reducible refine gate_callee (f := 54) rfl ?_); refine goesL_ (some 36) rfl rfl Tryz.func54 (by kernel_rfl) rfl #[.slice Ao15 x3_1.length co15] rfl (by (try simp only [List.map_toArray, List.map_cons, List.map_nil]); first | done | rfl | (simp only [List.length_drop, List.length_take]; rfl)) ?_; (with_reducible refine (iF18.calls _ _ x3_1 t318 _ ?side1 ?side2 A14.out).mono ?_); (case side1 => repeat (first | exact (Kd.R_reads' HO_3.out).2.2 | with_reducible first | apply cA_ | apply cN_ | apply cD_)); (case side2 => exact (Kd.R_reads' HO_3.out).2.1); rintro e w16 ⟨v319, rfl, ho0, hb⟩; refine ⟨_, rfl, ?_⟩; have n0_ := Aside0.mk (Kd.R_elder' (by (with_reducible repeat (first | apply Kd.R_alloc | apply Kd.R_drewN | apply Kd.R_drew)); exact HO_3.out) (Kd.R_base ho0) hb); have n1_ := Aside0.mk (Kd.R_lower (Kd.R_new' ho0 (Kd.R_lt (by (with_reducible repeat (first | apply Kd.R_alloc | apply Kd.R_drewN | apply Kd.R_drew)); exact HO_3.out))) (below_size (by repeat (first | (with_reducible first | exact HB.out | apply below_alloc | apply pw_below_drewN | apply below_drew1 | refine below_set ?_ GW310.out) | exact HB.out)))); have n2_ := Aside0.mk (blk_below (g := gb310) (o := .cells #[.slice none 0 0] 31 (0, 0)) (by (with_reducible repeat (first | refine blk_drewN ?_ _ | refine blk_drew ?_ | refine blk_alloc ?_ _)); exact BK310.out) hb); have n3_ := Aside0.mk (below_step (by repeat (first | (with_reducible first | exact HB.out | apply below_alloc | apply pw_below_drewN | apply below_drew1 | refine below_set ?_ GW310.out) | exact HB.out)) hb); clear HO_3; clear BK310; clear HB; have HO_3 := n0_; have HO320 := n1_; have BK310 := n2_; have HB := n3_; clear n0_ n1_ n2_ n3_; (try clear hb); (try clear hb2); (try clear hk); (try clear hi); (try clear ho0)) | ((with_reducible refine gate_dst (N := 38) rfl ?_); refine SM.made ?hg (N := 38) ?hd ?hr ?_; (case hd => rfl); (case hg => rfl); (case hr => first | (go_simp; done) | (go_simp; rfl)); intro gbM hg wMade hbox hb; have n0_ := Aside0.mk (Kd.R_below (by (with_reducible repeat (first | apply Kd.R_alloc | apply Kd.R_drewN | apply Kd.R_drew)); exact HO_3.out) hb); have n1_ := Aside0.mk (Kd.R_below (by (with_reducible repeat (first | apply Kd.R_alloc | apply Kd.R_drewN | apply Kd.R_drew)); exact HO320.out) hb); have n2_ := Aside0.mk (blk_below (g := gb310) (o := .cells #[.slice none 0 0] 31 (0, 0)) (by (with_reducible repeat (first | refine blk_drewN ?_ _ | refine blk_drew ?_ | refine blk_alloc ?_ _)); exact BK310.out) hb); have n3_ := Aside0.mk (below_step (by repeat (first | (with_reducible first | exact HB.out | apply below_alloc | apply pw_below_drewN | apply below_drew1 | refine below_set ?_ GW310.out) | exact HB.out)) hb); have n4_ := Aside0.mk (hbox); have n5_ := Aside0.mk ((by rw [hg]; exact (below_size (by repeat (first | (with_reducible first | exact HB.out | apply below_alloc | apply pw_below_drewN | apply below_drew1 | refine below_set ?_ GW310.out) | exact HB.out))) : w.heap.size ≤ gbM)); have n6_ := Aside0.mk ((by rw [hg]; exact (below_size (by repeat (first | (with_reducible first | exact HB.out | apply below_alloc | apply pw_below_drewN | apply below_drew1 | refine below_set ?_ GW310.out) | exact HB.out))) : w.heap.size ≤ gbM)); have n7_ := Aside0.mk ((by rw [hg]; exact Nat.ne_of_lt (blk_lt (g := gb310) (o := .cells #[.slice none 0 0] 31 (0, 0)) (by (with_reducible repeat (first | refine blk_drewN ?_ _ | refine blk_drew ?_ | refine blk_alloc ?_ _)); exact BK310.out)) : gb310 ≠ gbM)); have n8_ := Aside0.mk ((by rw [hg]; exact Nat.ne_of_gt (blk_lt (g := gb310) (o := .cells #[.slice none 0 0] 31 (0, 0)) (by (with_reducible repeat (first | refine blk_drewN ?_ _ | refine blk_drew ?_ | refine blk_alloc ?_ _)); exact BK310.out)) : gbM ≠ gb310)); clear HO_3; clear HO320; clear BK310; clear HB; have HO_3 := n0_; have HO320 := n1_; have BK310 := n2_; have HB := n3_; have BKM := n4_; have GWM := n5_; have GEM := n6_; have NB310_M := n7_; have NBM_310 := n8_; clear n0_ n1_ n2_ n3_ n4_ n5_ n6_ n7_ n8_; clear hb hbox hg) | ((with_reducible refine gate_dst (N := 7) rfl ?_); refine box_event ?hg (N := 7) ?hd (cs := #[.slice none 0 0]) (t := 31) ?hr ?_; (case hd => rfl); (case hg => rfl); (case hr => first | (go_simp; done) | (go_simp; rfl)); intro gb321 hg w17 hbox hb; have n0_ := Aside0.mk (Kd.R_below (by (with_reducible repeat (first | apply Kd.R_alloc | apply Kd.R_drewN | apply Kd.R_drew)); exact HO_3.out) hb); have n1_ := Aside0.mk (Kd.R_below (by (with_reducible repeat (first | apply Kd.R_alloc | apply Kd.R_drewN | apply Kd.R_drew)); exact HO320.out) hb); have n2_ := Aside0.mk (blk_below (g := gb310) (o := .cells #[.slice none 0 0] 31 (0, 0)) (by (with_reducible repeat (first | refine blk_drewN ?_ _ | refine blk_drew ?_ | refine blk_alloc ?_ _)); exact BK310.out) hb); have n29_ := Aside0.mk (SM.Is.below (l := []) (by (with_reducible repeat (first | refine SM.Is.drewN ?_ _ | refine SM.Is.drew ?_ | refine SM.Is.alloc ?_ _)); exact BKM.out) hb); have n3_ := Aside0.mk (below_step (by repeat (first | (with_reducible first | exact HB.out | apply below_alloc | apply pw_below_drewN | apply below_drew1 | refine below_set ?_ GW310.out) | exact HB.out)) hb); have n4_ := Aside0.mk (hbox); have n5_ := Aside0.mk ((by rw [hg]; exact (below_size (by repeat (first | (with_reducible first | exact HB.out | apply below_alloc | apply pw_below_drewN | apply below_drew1 | refine below_set ?_ GW310.out) | exact HB.out))) : w.heap.size ≤ gb321)); have n6_ := Aside0.mk ((by rw [hg]; exact (below_size (by repeat (first | (with_reducible first | exact HB.out | apply below_alloc | apply pw_below_drewN | apply below_drew1 | refine below_set ?_ GW310.out) | exact HB.out))) : w.heap.size ≤ gb321)); have n7_ := Aside0.mk ((by rw [hg]; exact Nat.ne_of_lt (blk_lt (g := gb310) (o := .cells #[.slice none 0 0] 31 (0, 0)) (by (with_reducible repeat (first | refine blk_drewN ?_ _ | refine blk_drew ?_ | refine blk_alloc ?_ _)); exact BK310.out)) : gb310 ≠ gb321)); have n79_ := Aside0.mk ((by rw [hg]; exact Nat.ne_of_lt (SM.Is.lt (l := []) (by (with_reducible repeat (first | refine SM.Is.drewN ?_ _ | refine SM.Is.drew ?_ | refine SM.Is.alloc ?_ _)); exact BKM.out)) : gbM ≠ gb321)); have n8_ := Aside0.mk ((by rw [hg]; exact Nat.ne_of_gt (blk_lt (g := gb310) (o := .cells #[.slice none 0 0] 31 (0, 0)) (by (with_reducible repeat (first | refine blk_drewN ?_ _ | refine blk_drew ?_ | refine blk_alloc ?_ _)); exact BK310.out)) : gb321 ≠ gb310)); have n89_ := Aside0.mk ((by rw [hg]; exact Nat.ne_of_gt (SM.Is.lt (l := []) (by (with_reducible repeat (first | refine SM.Is.drewN ?_ _ | refine SM.Is.drew ?_ | refine SM.Is.alloc ?_ _)); exact BKM.out)) : gb321 ≠ gbM)); clear HO_3; clear HO320; clear BKM; clear BK310; clear HB; have HO_3 := n0_; have HO320 := n1_; have BK310 := n2_; have BKM := n29_; have HB := n3_; have BK321 := n4_; have GW321 := n5_; have GW321 := n6_; have NB310_321 := n7_; have NBM_321 := n79_; have NB321_310 := n8_; have NB321_M := n89_; clear n0_ n1_ n2_ n3_ n4_ n5_ n6_ n7_ n8_ n29_ n79_ n89_; clear hb hbox hg; have hnb18 := NB321_310.out; have hnc18 := NB310_321.out; have hcz19_0 : w17.cell? ⟨gb321, 0, none⟩ = some (.slice none 0 0) := (blk_cell BK321.out 0).trans rfl; have hfz19_0 := blk_frozen BK321.out 0; obtain ⟨Ao20, co20, eo20⟩ := Kd.R_slice HO320.out; subst eo20))
  go_loopg [41] k1 (fun kq v41 w' => ∃ (x41_2 : Int) (x322000_2 : List (S53)) (u322000 : Value), v41 = .int .i64 x41_2 ∧ Aside0 (iF19.l2 kq l0 t318 (t318.length : Int) x41_2 x322000_2 = some r) ∧ Aside0 (kq ≤ k1) ∧ Aside0 (Kd.R Kd.string 9 w' w.heap.size (fun _ => True) (.slice Ao20 t318.length co20) t318) ∧ Aside0 (Kd.R k53 53 w' w.heap.size (fun _ => True) u322000 x322000_2) ∧ Aside0 (w'.heap[gb310]? = some (.cells #[(.slice none 0 0)] 31 (0, 0))) ∧ Aside0 (w'.heap[gb321]? = some (.cells #[u322000] 31 (0, 0))) ∧ Aside0 (Below w.heap.size w w') ∧ Aside0 (SM.Is w' gbM (List.take ((x41_2 : Int).toNat) t318)))
  case atStart => exact ⟨(0), (([] : List (S53))), (.slice none 0 0), (by first | rfl | (simp; done) | (simp [*]; done)), H', ⟨Nat.le_refl _⟩, ⟨by (with_reducible repeat (first | apply Kd.R_alloc | apply Kd.R_drewN | apply Kd.R_drew)); exact Kd.R_mono (Kd.R_far (p := ⟨gb321, 0, none⟩) (Kd.R_types HO320.out BK321.out (by decide)) (fun _ hk => hk.2) (.slice none 0 0)) (fun _ hk => trivial)⟩, ⟨by first | exact Kd.R_nil _ _ _ _ _ | exact Kd.N_nil _ _ _ _ _ | exact Kd.V_nil _ _ _ _ _ | exact Kd.Q_nil _ _ _ _ _ | exact Kd.S_nil _ _ _ _ _⟩, ⟨by (with_reducible repeat (first | refine blk_drewN ?_ _ | refine blk_drew ?_ | refine blk_alloc ?_ _)); refine blk_far ?_ NB310_321.out _; (with_reducible repeat (first | refine blk_drewN ?_ _ | refine blk_drew ?_ | refine blk_alloc ?_ _)); exact BK310.out⟩, ⟨by (with_reducible repeat (first | refine blk_drewN ?_ _ | refine blk_drew ?_ | refine blk_alloc ?_ _)); refine blk_put (cs := #[.slice none 0 0]) ?_ 0 _ rfl; (with_reducible repeat (first | refine blk_drewN ?_ _ | refine blk_drew ?_ | refine blk_alloc ?_ _)); exact BK321.out⟩, ⟨by repeat (first | (with_reducible first | exact HB.out | apply below_alloc | apply pw_below_drewN | apply below_drew1 | refine below_set ?_ GW310.out | refine below_set ?_ GW321.out) | exact HB.out)⟩, ⟨(by (with_reducible repeat (first | refine SM.Is.drewN ?_ _ | refine SM.Is.drew ?_ | refine SM.Is.alloc ?_ _)); refine SM.Is.far ?_ NBM_321.out _; (with_reducible repeat (first | refine SM.Is.drewN ?_ _ | refine SM.Is.drew ?_ | refine SM.Is.alloc ?_ _)); exact BKM.out : SM.Is _ gbM [])⟩⟩
  clear H'
  try clear c1
  try clear p2
  try clear c3
  try clear p3
  try clear q3
  try clear hx3
  try clear c5
  try clear c5b0
  try clear c6
  try clear c6b0
  try clear p6
  try clear c7
  try clear c7b0
  try clear c8
  try clear c8b0
  try clear c10
  try clear c10b0
  try clear c10b1
  try clear c11
  try clear c11b0
  try clear c11b1
  try clear c12
  try clear c18
  try clear hcz19_0
  try clear hfz19_0
  try clear hx314_0
  try clear p2
  try clear p3
  try clear p314
  try clear q3
  try clear q314
  obtain ⟨x41_2, x322000_2, u322000, rfl, HA, HK2, HO_39, HO_322000, BK310, BK321, HB, BKM0⟩ := hrel
  obtain ⟨lm, hlm⟩ : ∃ l_ : List ByteArray, l_ = List.take ((x41_2 : Int).toNat) t318 := ⟨_, rfl⟩
  have BKM : Aside0 (SM.Is wr gbM lm) := ⟨by rw [hlm]; exact BKM0.out⟩
  clear BKM0
  have HLM := Aside0.mk hlm
  clear hlm
  cases gk with
  | zero => exact absurd HA.out (by simp [iF19.l2])
  | succ k2 =>
   have H := HA.out
   clear HA
   simp only [iF19.l2] at H
   by_cases c21 : x41_2 < (t318.length : Int)
   rotate_left
   ·
    rw [if_neg c21] at H
    have c21b0 : decide (x41_2 < (t318.length : Int)) = false := dF_ c21
    clear c21
    obtain rfl := Option.some.inj H
    have hnb57 := NB321_310.out
    have hnc57 := NB310_321.out
    have hcz58_0 : wr.cell? ⟨gb321, 0, none⟩ = some (u322000) := (blk_cell BK321.out 0).trans rfl
    have hfz58_0 := blk_frozen BK321.out 0
    obtain ⟨Ao59, co59, eo59⟩ := Kd.R_slice HO_322000.out
    subst eo59
    have hcz60_0 : wr.cell? ⟨gb310, 0, none⟩ = some (.slice none 0 0) := (blk_cell BK310.out 0).trans rfl
    have hfz60_0 := blk_frozen BK310.out 0
    go_wp2
    refine bodyPost_ret (results_cell_row rfl _ _ gb310 31 #[.slice Ao59 x322000_2.length co59] (0, 0) _ rfl (by (with_reducible repeat (first | refine blk_drewN ?_ _ | refine blk_drew ?_ | refine blk_alloc ?_ _)); refine blk_put (cs := #[.slice none 0 0]) ?_ 0 _ rfl; (with_reducible repeat (first | refine blk_drewN ?_ _ | refine blk_drew ?_ | refine blk_alloc ?_ _)); exact BK310.out) Tryz.underlying31 rfl (by kernel_rfl)) rfl ?_
    exact ⟨_, by first | rfl | (simp [errW_none, errW_some] <;> rfl) | (simp [*, errW_none, errW_some] <;> rfl), by (with_reducible repeat (first | apply Kd.R_alloc | apply Kd.R_drewN | apply Kd.R_drew)); exact Kd.R_mono (Kd.R_far (p := ⟨gb310, 0, none⟩) (Kd.R_types HO_322000.out BK310.out (by decide)) (fun _ hk => hk.2) (.slice Ao59 x322000_2.length co59)) (fun _ hk => trivial), by repeat (first | (with_reducible first | exact HB.out | apply below_alloc | apply pw_below_drewN | apply below_drew1 | refine below_set ?_ GW310.out | refine below_set ?_ GW321.out) | exact HB.out)⟩
   rw [if_pos c21] at H
   have c21b0 : decide (x41_2 < (t318.length : Int)) = true := dT_ c21
   clear c21
   by_cases c22 : 0 ≤ x41_2
   rotate_left
   ·
    rw [if_neg c22] at H
    exact absurd H (by simp)
   rw [if_pos c22] at H
   have c22b0 : decide (0 ≤ x41_2) = true := dT_ c22
   clear c22
   by_cases c23 : x41_2 < (t318.length : Int)
   rotate_left
   ·
    rw [if_neg c23] at H
    exact absurd H (by simp)
   rw [if_pos c23] at H
   have c23b0 : decide (x41_2 < (t318.length : Int)) = true := dT_ c23
   clear c23
   replace H := Option.bind_eq_some_iff.mp H
   obtain ⟨⟨t323, t324⟩, A240, H⟩ := H
   replace H : (if (rdOf ByteArray.empty t318 x41_2).toList = ([] : List UInt8) then (if x322000_2.length < 5864062014805 then (iF19.l2 k2 l0 t318 (t318.length : Int) (wrap64 (x41_2 + 1)) (x322000_2 ++ [(⟨(-1), (-1), t324⟩ : S53)])) else (none)) else (if 0 ≤ (wrap64 (((rdOf ByteArray.empty t318 x41_2).size : Int) - 1)) then (if (wrap64 (((rdOf ByteArray.empty t318 x41_2).size : Int) - 1)) < ((rdOf ByteArray.empty t318 x41_2).size : Int) then (if (wrap64 (((rdOf ByteArray.empty t318 x41_2).size : Int) - 1)) ≤ ((rdOf ByteArray.empty t318 x41_2).size : Int) then (if x322000_2.length < 5864062014805 then (iF19.l2 k2 l0 t318 (t318.length : Int) (wrap64 (x41_2 + 1)) (x322000_2 ++ [(⟨((bt (rdOf ByteArray.empty t318 x41_2) (wrap64 (((rdOf ByteArray.empty t318 x41_2).size : Int) - 1))) - 97) % 256, SM.at_ (List.take ((x41_2 : Int).toNat + 1) t318) ((rdOf ByteArray.empty t318 x41_2).extract 0 ((wrap64 (((rdOf ByteArray.empty t318 x41_2).size : Int) - 1)) : Int).toNat), t324⟩ : S53)])) else (none)) else (none)) else (none)) else (none))) = some r := H
   have A24 := Aside0.mk A240
   clear A240
   by_cases c25 : (rdOf ByteArray.empty t318 x41_2).toList = ([] : List UInt8)
   ·
    rw [if_pos c25] at H
    have c25b0 : ((rdOf ByteArray.empty t318 x41_2).toList == ([] : List UInt8)) = true := beq_iff_eq.mpr c25
    have c25b1 : ((rdOf ByteArray.empty t318 x41_2).toList != ([] : List UInt8)) = false := bne_eq_false_iff_eq.mpr c25
    clear c25
    by_cases c26 : x322000_2.length < 5864062014805
    rotate_left
    ·
     rw [if_neg c26] at H
     exact absurd H (by simp)
    rw [if_pos c26] at H
    have LMc26 := Aside0.mk c26
    clear c26
    obtain ⟨y326, hy326⟩ : ∃ y_ : List (S53), y_ = (x322000_2 ++ [(⟨(-1), (-1), t324⟩ : S53)]) := ⟨_, rfl⟩
    replace H : (iF19.l2 k2 l0 t318 (t318.length : Int) (wrap64 (x41_2 + 1)) y326) = some r := by (try rw [hy326]); first | with_reducible exact H | with_reducible exact oS_ H | exact H
    have Ny326 := Aside0.mk hy326
    clear hy326
    have H' := Aside0.mk H
    clear H
    have p322 : 0 ≤ (x41_2 : Int) := oD_ (by first | (with_reducible assumption) | assumption)
    have q322 : x41_2 < (t318.length : Int) := oD_ (by first | (with_reducible assumption) | assumption)
    have HLL := Aside0.mk (show (lm.length : Int) = x41_2 from by rw [HLM.out, List.length_take]; omega)
    have HLL2 := Aside0.mk (show lm.length < t318.length from by rw [HLM.out, List.length_take]; omega)
    have HLP := Aside0.mk (SM.okL.size HSZ.out x41_2 p322 q322)
    have HLN := Aside0.mk (show lm ++ [rdOf ByteArray.empty t318 x41_2] = List.take ((x41_2 : Int).toNat + 1) t318 from by rw [HLM.out]; exact SM.take_rd t318 x41_2 p322 q322)
    obtain ⟨ad322, e322, hx322_0⟩ := Kd.at_string (Kd.R_reads' HO_39.out).2.2 x41_2 p322 q322
    cases e322
    replace p322 := eq_true p322
    replace q322 := eq_true q322
    go_wp2_with (first | (at_mapUpdate; refine SM.put rfl (.tmp 46) (.tmp 47) (.tmp 48) 72 Tryz.underlying72 rfl gbM lm rfl (by (with_reducible repeat (first | refine SM.Is.drewN ?_ _ | refine SM.Is.drew ?_ | refine SM.Is.alloc ?_ _)); exact BKM.out) ?hn (rdOf ByteArray.empty t318 x41_2) ?hp rfl ?hv ?_; (case hn => have h1_ := SM.okL.len HSZ.out; have h2_ := HLL2.out; omega); (case hp => have h1_ := HLP.out; unfold maxLen; omega); (case hv => exact (congrArg (Value.int IntKind.i64) HLL.out).symm); intro w9m h1m hgm; obtain ⟨lm2, hlm2⟩ : ∃ l_ : List ByteArray, l_ = lm ++ [rdOf ByteArray.empty t318 x41_2] := ⟨_, rfl⟩; rw [← hlm2] at h1m; have HLM2 := Aside0.mk hlm2; clear hlm2; have nr0_ := Aside0.mk (SM.R_over (by (with_reducible repeat (first | apply Kd.R_alloc | apply Kd.R_drewN | apply Kd.R_drew)); exact HO_39.out) (by (with_reducible repeat (first | refine SM.Is.drewN ?_ _ | refine SM.Is.drew ?_ | refine SM.Is.alloc ?_ _)); exact BKM.out) hgm); have nr1_ := Aside0.mk (SM.R_over (by (with_reducible repeat (first | apply Kd.R_alloc | apply Kd.R_drewN | apply Kd.R_drew)); exact HO_322000.out) (by (with_reducible repeat (first | refine SM.Is.drewN ?_ _ | refine SM.Is.drew ?_ | refine SM.Is.alloc ?_ _)); exact BKM.out) hgm); have nb_ := Aside0.mk (blk_grown (g := gb310) (o := .cells #[.slice none 0 0] 31 (0, 0)) (by (with_reducible repeat (first | refine blk_drewN ?_ _ | refine blk_drew ?_ | refine blk_alloc ?_ _)); exact BK310.out) hgm (fun e_ => NBM_310.out (Option.some.inj e_).symm)); have nt_ := Aside0.mk (blk_grown (g := gb321) (by (with_reducible repeat (first | refine blk_drewN ?_ _ | refine blk_drew ?_ | refine blk_alloc ?_ _)); exact BK321.out) hgm (fun e_ => NBM_321.out (Option.some.inj e_).symm)); have nh_ := Aside0.mk (RowKit.Below.grown (by repeat (first | (with_reducible first | exact HB.out | apply below_alloc | apply pw_below_drewN | apply below_drew1) | exact HB.out)) hgm (below_size (by repeat (first | (with_reducible first | exact HB.out | apply below_alloc | apply pw_below_drewN | apply below_drew1) | exact HB.out))) (fun j hj => by cases hj; exact GEM.out)); clear HO_39 HO_322000 BK310 BK321 HB BKM; have HO_39 := nr0_; clear nr0_; have HO_322000 := nr1_; clear nr1_; have BK310 := nb_; have BK321 := nt_; have HB := nh_; have BKM := Aside0.mk h1m; clear nb_ nt_ nh_ h1m hgm) | ((with_reducible refine gate_callee (f := 55) rfl ?_); refine goesL_ (some 52) rfl rfl Tryz.func55 (by kernel_rfl) rfl #[.slice A0 l0.length c0, .string (rdOf ByteArray.empty t318 x41_2)] rfl (by (try simp only [List.map_toArray, List.map_cons, List.map_nil]); first | done | rfl | (simp only [List.length_drop, List.length_take]; rfl)) ?_; (with_reducible refine (xF35.calls k2 _ _ l0 (rdOf ByteArray.empty t318 x41_2) t323 t324 _ ?side1 HC0.out A24.out).mono ?_); (case side1 => repeat (first | exact (Kd.C_below HR0.out HB.out) | with_reducible first | apply cA_ | apply cN_ | apply cD_)); rintro e w' ⟨rfl, ⟨nd, rfl⟩⟩; refine ⟨_, rfl, ?_⟩; (try (rw [drewN_self wr]; generalize hq_ : World.drewN wr _ = wr; have n0_ : Aside0 (Kd.R k53 53 wr w.heap.size (fun _ => True) u322000 x322000_2) := ⟨by rw [← hq_]; exact (by (with_reducible repeat (first | apply Kd.R_alloc | apply Kd.R_drewN | apply Kd.R_drew)); exact HO_322000.out)⟩; have n1_ : Aside0 (Kd.R Kd.string 9 wr w.heap.size (fun _ => True) (.slice (some ad322) t318.length co20) t318) := ⟨by rw [← hq_]; exact (by (with_reducible repeat (first | apply Kd.R_alloc | apply Kd.R_drewN | apply Kd.R_drew)); exact HO_39.out)⟩; have n2_ : Aside0 (wr.heap[gb310]? = some (.cells #[.slice none 0 0] 31 (0, 0))) := ⟨by rw [← hq_]; exact (by (with_reducible repeat (first | refine blk_drewN ?_ _ | refine blk_drew ?_ | refine blk_alloc ?_ _)); exact BK310.out)⟩; have n29_ : Aside0 (SM.Is wr gbM lm2) := ⟨by rw [← hq_]; exact (by (with_reducible repeat (first | refine SM.Is.drewN ?_ _ | refine SM.Is.drew ?_ | refine SM.Is.alloc ?_ _)); exact BKM.out)⟩; have n3_ : Aside0 (wr.heap[gb321]? = some (.cells #[u322000] 31 (0, 0))) := ⟨by rw [← hq_]; exact (by (with_reducible repeat (first | refine blk_drewN ?_ _ | refine blk_drew ?_ | refine blk_alloc ?_ _)); exact BK321.out)⟩; have n4_ : Aside0 (Below w.heap.size w wr) := ⟨by rw [← hq_]; exact (by repeat (first | (with_reducible first | exact HB.out | apply below_alloc | apply pw_below_drewN | apply below_drew1 | refine below_set ?_ GW310.out | refine below_set ?_ GW321.out) | exact HB.out))⟩; clear HO_322000 HO_39 BKM BK310 BK321 HB hq_; have HO_322000 := n0_; have HO_39 := n1_; have BK310 := n2_; have BKM := n29_; have BK321 := n3_; have HB := n4_; clear n0_ n1_ n2_ n3_ n4_ n29_))) | ((with_reducible refine gate_dst (N := 13) rfl ?_); refine box_event ?hg (N := 13) ?hd (cs := #[.int .i64 0, .int .i64 0, .bool false]) (t := 53) ?hr ?_; (case hd => rfl); (case hg => rfl); (case hr => first | (go_simp; done) | (go_simp; rfl)); intro gb325 hg w27 hbox hb; have n0_ := Aside0.mk (Kd.R_below (by (with_reducible repeat (first | apply Kd.R_alloc | apply Kd.R_drewN | apply Kd.R_drew)); exact HO_39.out) hb); have n1_ := Aside0.mk (Kd.R_below (Kd.R_elderB (by (with_reducible repeat (first | apply Kd.R_alloc | apply Kd.R_drewN | apply Kd.R_drew)); exact HO_322000.out) gb325 (Nat.le_of_eq hg.symm)) hb); have n2_ := Aside0.mk (blk_below (g := gb310) (o := .cells #[.slice none 0 0] 31 (0, 0)) (by (with_reducible repeat (first | refine blk_drewN ?_ _ | refine blk_drew ?_ | refine blk_alloc ?_ _)); exact BK310.out) hb); have n29_ := Aside0.mk (SM.Is.below (l := lm2) (by (with_reducible repeat (first | refine SM.Is.drewN ?_ _ | refine SM.Is.drew ?_ | refine SM.Is.alloc ?_ _)); exact BKM.out) hb); have n3_ := Aside0.mk (blk_below (g := gb321) (o := .cells #[u322000] 31 (0, 0)) (by (with_reducible repeat (first | refine blk_drewN ?_ _ | refine blk_drew ?_ | refine blk_alloc ?_ _)); exact BK321.out) hb); have n4_ := Aside0.mk (below_step (by repeat (first | (with_reducible first | exact HB.out | apply below_alloc | apply pw_below_drewN | apply below_drew1 | refine below_set ?_ GW310.out | refine below_set ?_ GW321.out) | exact HB.out)) hb); have n5_ := Aside0.mk (hbox); have n6_ := Aside0.mk ((by rw [hg]; exact (below_size (by repeat (first | (with_reducible first | exact HB.out | apply below_alloc | apply pw_below_drewN | apply below_drew1 | refine below_set ?_ GW310.out | refine below_set ?_ GW321.out) | exact HB.out))) : w.heap.size ≤ gb325)); have n7_ := Aside0.mk ((by rw [hg]; exact (below_size (by repeat (first | (with_reducible first | exact HB.out | apply below_alloc | apply pw_below_drewN | apply below_drew1 | refine below_set ?_ GW310.out | refine below_set ?_ GW321.out) | exact HB.out))) : w.heap.size ≤ gb325)); have n8_ := Aside0.mk ((by rw [hg]; exact Nat.ne_of_lt (blk_lt (g := gb310) (o := .cells #[.slice none 0 0] 31 (0, 0)) (by (with_reducible repeat (first | refine blk_drewN ?_ _ | refine blk_drew ?_ | refine blk_alloc ?_ _)); exact BK310.out)) : gb310 ≠ gb325)); have n89_ := Aside0.mk ((by rw [hg]; exact Nat.ne_of_lt (SM.Is.lt (l := lm2) (by (with_reducible repeat (first | refine SM.Is.drewN ?_ _ | refine SM.Is.drew ?_ | refine SM.Is.alloc ?_ _)); exact BKM.out)) : gbM ≠ gb325)); have n9_ := Aside0.mk ((by rw [hg]; exact Nat.ne_of_gt (blk_lt (g := gb310) (o := .cells #[.slice none 0 0] 31 (0, 0)) (by (with_reducible repeat (first | refine blk_drewN ?_ _ | refine blk_drew ?_ | refine blk_alloc ?_ _)); exact BK310.out)) : gb325 ≠ gb310)); have n99_ := Aside0.mk ((by rw [hg]; exact Nat.ne_of_gt (SM.Is.lt (l := lm2) (by (with_reducible repeat (first | refine SM.Is.drewN ?_ _ | refine SM.Is.drew ?_ | refine SM.Is.alloc ?_ _)); exact BKM.out)) : gb325 ≠ gbM)); have n10_ := Aside0.mk ((by rw [hg]; exact Nat.ne_of_lt (blk_lt (g := gb321) (o := .cells #[u322000] 31 (0, 0)) (by (with_reducible repeat (first | refine blk_drewN ?_ _ | refine blk_drew ?_ | refine blk_alloc ?_ _)); exact BK321.out)) : gb321 ≠ gb325)); have n11_ := Aside0.mk ((by rw [hg]; exact Nat.ne_of_gt (blk_lt (g := gb321) (o := .cells #[u322000] 31 (0, 0)) (by (with_reducible repeat (first | refine blk_drewN ?_ _ | refine blk_drew ?_ | refine blk_alloc ?_ _)); exact BK321.out)) : gb325 ≠ gb321)); clear HO_39; clear HO_322000; clear BKM; clear BK310; clear BK321; clear HB; have HO_39 := n0_; have HO_322000 := n1_; have BK310 := n2_; have BKM := n29_; have BK321 := n3_; have HB := n4_; have BK325 := n5_; have GW325 := n6_; have GW325 := n7_; have NB310_325 := n8_; have NBM_325 := n89_; have NB325_310 := n9_; have NB325_M := n99_; have NB321_325 := n10_; have NB325_321 := n11_; clear n0_ n1_ n2_ n3_ n4_ n5_ n6_ n7_ n8_ n9_ n10_ n11_ n29_ n89_ n99_; clear hb hbox hg; have hnb28 := NB325_310.out; have hnc28 := NB310_325.out; have hnb29 := NB325_321.out; have hnc29 := NB321_325.out; have hcz30_0 : w27.cell? ⟨gb325, 0, none⟩ = some (.int .i64 0) := (blk_cell BK325.out 0).trans rfl; have hcz30_1 : w27.cell? ⟨gb325, 1, none⟩ = some (.int .i64 0) := (blk_cell BK325.out 1).trans rfl; have hcz30_2 : w27.cell? ⟨gb325, 2, none⟩ = some (.bool false) := (blk_cell BK325.out 2).trans rfl; have hfz30_0 := blk_frozen BK325.out 0; have hfz30_1 := blk_frozen BK325.out 1; have hfz30_2 := blk_frozen BK325.out 2; have hnb31 := NB321_310.out; have hnc31 := NB310_321.out; have hcz32_0 : w27.cell? ⟨gb321, 0, none⟩ = some (u322000) := (blk_cell BK321.out 0).trans rfl; have hfz32_0 := blk_frozen BK321.out 0) | ((with_reducible refine gate_builtin (b := .append) (xs := #[.tmp 76, .tmp 78]) rfl ?_); at_builtin; refine Kd.R_append k53 (w0 := w) w.heap.size rfl (.tmp 76) (.tmp 78) 29 53 (.agg #[(.int .i64 0), (.int .i64 0), (.bool false)]) 24 rfl Tryz.underlying29 info53 rfl (by decide) (by omega) u322000 x322000_2 (⟨(-1), (-1), t324⟩ : S53) [.int .i64 (-1), .int .i64 (-1), .bool t324] (fun k_ => k_ ≠ gb325) (fun _ => False) rfl (by first | (go_simp; done) | (go_simp; rfl)) ?aP (fun _ hk => hk.elim) ?aF ?aO ?aB ?aS ?aL ?_; (case aP => exact k53_mkM _ _ _ (⟨(-1), (-1), t324⟩ : S53)); (case aB => exact (by repeat (first | (with_reducible first | exact HB.out | apply below_alloc | apply pw_below_drewN | apply below_drew1 | refine below_set ?_ GW310.out | refine below_set ?_ GW321.out | refine below_set ?_ GW325.out) | exact HB.out))); (case aF => exact (fun k_ hk => Kd.freshB (g := gb325) (o := .cells #[.int .i64 (-1), .int .i64 (-1), .bool t324] 53 (0, 0)) (by (with_reducible repeat (first | refine blk_drewN ?_ _ | refine blk_drew ?_ | refine blk_alloc ?_ _)); refine blk_put (cs := #[.int .i64 (-1), .int .i64 (-1), .bool false]) ?_ 2 _ rfl; (with_reducible repeat (first | refine blk_drewN ?_ _ | refine blk_drew ?_ | refine blk_alloc ?_ _)); refine blk_put (cs := #[.int .i64 (-1), .int .i64 0, .bool false]) ?_ 1 _ rfl; (with_reducible repeat (first | refine blk_drewN ?_ _ | refine blk_drew ?_ | refine blk_alloc ?_ _)); refine blk_put (cs := #[.int .i64 0, .int .i64 0, .bool false]) ?_ 0 _ rfl; (with_reducible repeat (first | refine blk_drewN ?_ _ | refine blk_drew ?_ | refine blk_alloc ?_ _)); exact BK325.out) k_ hk)); (case aO => exact (by (with_reducible repeat (first | apply Kd.R_alloc | apply Kd.R_drewN | apply Kd.R_drew)); exact Kd.R_mono (Kd.R_far (p := ⟨gb325, 2, none⟩) (Kd.R_far (p := ⟨gb325, 1, none⟩) (Kd.R_far (p := ⟨gb325, 0, none⟩) (Kd.R_mono HO_322000.out (fun k_ hk => (⟨hk, hk.2⟩ : _ ∧ k_ ≠ gb325))) (fun _ hk => hk.2) (.int .i64 (-1))) (fun _ hk => hk.2) (.int .i64 (-1))) (fun _ hk => hk.2) (.bool t324)) (fun _ hk => hk.1.2))); (case aS => exact (below_size (by repeat (first | (with_reducible first | exact HB.out | apply below_alloc | apply pw_below_drewN | apply below_drew1 | refine below_set ?_ GW310.out | refine below_set ?_ GW321.out | refine below_set ?_ GW325.out) | exact HB.out)))); (case aL => have := LMc26.out; omega); intro v327 w33 ho hb hg hat; rw [← Ny326.out] at ho; have n0_ := Aside0.mk (Kd.R_over' (by (with_reducible repeat (first | apply Kd.R_alloc | apply Kd.R_drewN | apply Kd.R_drew)); exact (Kd.R_mono (Kd.R_far (p := ⟨gb325, 2, none⟩) (Kd.R_far (p := ⟨gb325, 1, none⟩) (Kd.R_far (p := ⟨gb325, 0, none⟩) (Kd.R_types HO_39.out BK325.out (by decide)) (fun _ hk => hk.2) (.int .i64 (-1))) (fun _ hk => hk.2) (.int .i64 (-1))) (fun _ hk => hk.2) (.bool t324)) (fun _ h_ => h_.1))) (Kd.R_typed (by (with_reducible repeat (first | apply Kd.R_alloc | apply Kd.R_drewN | apply Kd.R_drew)); exact (Kd.R_mono (Kd.R_far (p := ⟨gb325, 2, none⟩) (Kd.R_far (p := ⟨gb325, 1, none⟩) (Kd.R_far (p := ⟨gb325, 0, none⟩) (Kd.R_mono HO_322000.out (fun k_ hk => (⟨hk, hk.2⟩ : _ ∧ k_ ≠ gb325))) (fun _ hk => hk.2) (.int .i64 (-1))) (fun _ hk => hk.2) (.int .i64 (-1))) (fun _ hk => hk.2) (.bool t324)) (fun _ h_ => h_.1)))) (by decide) hg); have n1_ := Aside0.mk (blk_grown (g := gb310) (o := .cells #[.slice none 0 0] 31 (0, 0)) (by (with_reducible repeat (first | refine blk_drewN ?_ _ | refine blk_drew ?_ | refine blk_alloc ?_ _)); refine blk_far ?_ NB310_325.out _; (with_reducible repeat (first | refine blk_drewN ?_ _ | refine blk_drew ?_ | refine blk_alloc ?_ _)); refine blk_far ?_ NB310_325.out _; (with_reducible repeat (first | refine blk_drewN ?_ _ | refine blk_drew ?_ | refine blk_alloc ?_ _)); refine blk_far ?_ NB310_325.out _; (with_reducible repeat (first | refine blk_drewN ?_ _ | refine blk_drew ?_ | refine blk_alloc ?_ _)); exact BK310.out) hg (Kd.R_ne HO_322000.out BK310.out (by decide))); have n19_ := Aside0.mk (SM.Is.grown (l := lm2) (by (with_reducible repeat (first | refine SM.Is.drewN ?_ _ | refine SM.Is.drew ?_ | refine SM.Is.alloc ?_ _)); refine SM.Is.far ?_ NBM_325.out _; (with_reducible repeat (first | refine SM.Is.drewN ?_ _ | refine SM.Is.drew ?_ | refine SM.Is.alloc ?_ _)); refine SM.Is.far ?_ NBM_325.out _; (with_reducible repeat (first | refine SM.Is.drewN ?_ _ | refine SM.Is.drew ?_ | refine SM.Is.alloc ?_ _)); refine SM.Is.far ?_ NBM_325.out _; (with_reducible repeat (first | refine SM.Is.drewN ?_ _ | refine SM.Is.drew ?_ | refine SM.Is.alloc ?_ _)); exact BKM.out) hg (SM.Is.ne BKM.out HO_322000.out)); have n2_ := Aside0.mk (blk_grown (g := gb321) (o := .cells #[u322000] 31 (0, 0)) (by (with_reducible repeat (first | refine blk_drewN ?_ _ | refine blk_drew ?_ | refine blk_alloc ?_ _)); refine blk_far ?_ NB321_325.out _; (with_reducible repeat (first | refine blk_drewN ?_ _ | refine blk_drew ?_ | refine blk_alloc ?_ _)); refine blk_far ?_ NB321_325.out _; (with_reducible repeat (first | refine blk_drewN ?_ _ | refine blk_drew ?_ | refine blk_alloc ?_ _)); refine blk_far ?_ NB321_325.out _; (with_reducible repeat (first | refine blk_drewN ?_ _ | refine blk_drew ?_ | refine blk_alloc ?_ _)); exact BK321.out) hg (Kd.R_ne HO_322000.out BK321.out (by decide))); have n3_ := Aside0.mk (blk_grown (g := gb325) (o := .cells #[.int .i64 (-1), .int .i64 (-1), .bool t324] 53 (0, 0)) (by (with_reducible repeat (first | refine blk_drewN ?_ _ | refine blk_drew ?_ | refine blk_alloc ?_ _)); refine blk_put (cs := #[.int .i64 (-1), .int .i64 (-1), .bool false]) ?_ 2 _ rfl; (with_reducible repeat (first | refine blk_drewN ?_ _ | refine blk_drew ?_ | refine blk_alloc ?_ _)); refine blk_put (cs := #[.int .i64 (-1), .int .i64 0, .bool false]) ?_ 1 _ rfl; (with_reducible repeat (first | refine blk_drewN ?_ _ | refine blk_drew ?_ | refine blk_alloc ?_ _)); refine blk_put (cs := #[.int .i64 0, .int .i64 0, .bool false]) ?_ 0 _ rfl; (with_reducible repeat (first | refine blk_drewN ?_ _ | refine blk_drew ?_ | refine blk_alloc ?_ _)); exact BK325.out) hg (Kd.R_away HO_322000.out (fun _ hk => hk.2))); have n4_ := Aside0.mk (hb); have n5_ := Aside0.mk (ho); clear HO_39; clear BKM; clear BK310; clear BK321; clear BK325; clear HB; clear HO_322000; have HO_39 := n0_; have BK310 := n1_; have BKM := n19_; have BK321 := n2_; have BK325 := n3_; have HB := n4_; have HO328 := n5_; clear n0_ n1_ n2_ n3_ n4_ n5_ n19_; clear ho hb hg hat; obtain ⟨Ao34, co34, eo34⟩ := Kd.R_slice HO328.out; subst eo34; have hcz35_0 : w33.cell? ⟨gb321, 0, none⟩ = some (u322000) := (blk_cell BK321.out 0).trans rfl; have hfz35_0 := blk_frozen BK321.out 0))
    go_roundg k2
    case measure => have := HK1.out; have := HK2.out; omega
    case rel => exact ⟨(wrap64 (x41_2 + 1)), (y326), (.slice Ao34 y326.length co34), (by first | rfl | (simp; done) | (simp [*]; done)), H', ⟨by have := HK1.out; have := HK2.out; omega⟩, ⟨by (with_reducible repeat (first | apply Kd.R_alloc | apply Kd.R_drewN | apply Kd.R_drew)); exact Kd.R_mono (Kd.R_far (p := ⟨gb321, 0, none⟩) (Kd.R_types HO_39.out BK321.out (by decide)) (fun _ hk => hk.2) (.slice Ao34 y326.length co34)) (fun _ hk => trivial)⟩, ⟨by (with_reducible repeat (first | apply Kd.R_alloc | apply Kd.R_drewN | apply Kd.R_drew)); exact Kd.R_mono (Kd.R_far (p := ⟨gb321, 0, none⟩) (Kd.R_types HO328.out BK321.out (by decide)) (fun _ hk => hk.2) (.slice Ao34 y326.length co34)) (fun _ hk => trivial)⟩, ⟨by (with_reducible repeat (first | refine blk_drewN ?_ _ | refine blk_drew ?_ | refine blk_alloc ?_ _)); refine blk_far ?_ NB310_321.out _; (with_reducible repeat (first | refine blk_drewN ?_ _ | refine blk_drew ?_ | refine blk_alloc ?_ _)); exact BK310.out⟩, ⟨by (with_reducible repeat (first | refine blk_drewN ?_ _ | refine blk_drew ?_ | refine blk_alloc ?_ _)); refine blk_put (cs := #[u322000]) ?_ 0 _ rfl; (with_reducible repeat (first | refine blk_drewN ?_ _ | refine blk_drew ?_ | refine blk_alloc ?_ _)); exact BK321.out⟩, ⟨by repeat (first | (with_reducible first | exact HB.out | apply below_alloc | apply pw_below_drewN | apply below_drew1 | refine below_set ?_ GW310.out | refine below_set ?_ GW321.out | refine below_set ?_ GW325.out) | exact HB.out)⟩, ⟨by rw [SM.next_rd t318 x41_2 lm2 HLM2.out HLN.out HLL.out HLL2.out HSZ.out]; (with_reducible repeat (first | refine SM.Is.drewN ?_ _ | refine SM.Is.drew ?_ | refine SM.Is.alloc ?_ _)); refine SM.Is.far ?_ NBM_321.out _; (with_reducible repeat (first | refine SM.Is.drewN ?_ _ | refine SM.Is.drew ?_ | refine SM.Is.alloc ?_ _)); exact BKM.out⟩⟩
   rw [if_neg c25] at H
   have c25b0 : ((rdOf ByteArray.empty t318 x41_2).toList == ([] : List UInt8)) = false := beq_eq_false_iff_ne.mpr c25
   have c25b1 : ((rdOf ByteArray.empty t318 x41_2).toList != ([] : List UInt8)) = true := bne_iff_ne.mpr c25
   obtain ⟨ji36, hji36⟩ : ∃ j_ : Int, (wrap64 (((rdOf ByteArray.empty t318 x41_2).size : Int) - 1)) = j_ := ⟨_, rfl⟩
   replace H : (if 0 ≤ (ji36) then (if (ji36) < ((rdOf ByteArray.empty t318 x41_2).size : Int) then (if (ji36) ≤ ((rdOf ByteArray.empty t318 x41_2).size : Int) then (if x322000_2.length < 5864062014805 then (iF19.l2 k2 l0 t318 (t318.length : Int) (wrap64 (x41_2 + 1)) (x322000_2 ++ [(⟨((bt (rdOf ByteArray.empty t318 x41_2) (ji36)) - 97) % 256, SM.at_ (List.take ((x41_2 : Int).toNat + 1) t318) ((rdOf ByteArray.empty t318 x41_2).extract 0 ((ji36) : Int).toNat), t324⟩ : S53)])) else (none)) else (none)) else (none)) else (none)) = some r := by first | (rw [hji36] at H; exact H) | (simp only [hji36] at H ⊢; exact H)
   (try rw [hji36] at A24)
   have hji36w : (IntKind.i64.wrap (((rdOf ByteArray.empty t318 x41_2).size : Int) - 1)) = ji36 := (i64_w _).trans hji36
   obtain ⟨mv, hmv⟩ : ∃ m_ : Int, SM.at_ (List.take ((x41_2 : Int).toNat + 1) t318) ((rdOf ByteArray.empty t318 x41_2).extract 0 ((ji36) : Int).toNat) = m_ := ⟨_, rfl⟩
   rw [hmv] at H
   have HMV := Aside0.mk hmv
   clear hmv
   by_cases c37 : 0 ≤ (ji36)
   rotate_left
   ·
    rw [if_neg c37] at H
    exact absurd H (by simp)
   rw [if_pos c37] at H
   have c37b0 : decide (0 ≤ (ji36)) = true := dT_ c37
   clear c37
   by_cases c38 : (ji36) < ((rdOf ByteArray.empty t318 x41_2).size : Int)
   rotate_left
   ·
    rw [if_neg c38] at H
    exact absurd H (by simp)
   rw [if_pos c38] at H
   have c38b0 : decide ((ji36) < ((rdOf ByteArray.empty t318 x41_2).size : Int)) = true := dT_ c38
   clear c38
   have c40b0 := eq_true (oD_ (by first | (with_reducible assumption) | assumption) : 0 ≤ (ji36))
   by_cases c41 : (ji36) ≤ ((rdOf ByteArray.empty t318 x41_2).size : Int)
   rotate_left
   ·
    rw [if_neg c41] at H
    exact absurd H (by simp)
   rw [if_pos c41] at H
   have c41b0 := eq_true c41
   have c41b1 : decide ((ji36) ≤ ((rdOf ByteArray.empty t318 x41_2).size : Int)) = true := dT_ c41
   clear c41
   by_cases c42 : x322000_2.length < 5864062014805
   rotate_left
   ·
    rw [if_neg c42] at H
    exact absurd H (by simp)
   rw [if_pos c42] at H
   have LMc42 := Aside0.mk c42
   clear c42
   obtain ⟨y329, hy329⟩ : ∃ y_ : List (S53), y_ = (x322000_2 ++ [(⟨((bt (rdOf ByteArray.empty t318 x41_2) (ji36)) - 97) % 256, mv, t324⟩ : S53)]) := ⟨_, rfl⟩
   replace H : (iF19.l2 k2 l0 t318 (t318.length : Int) (wrap64 (x41_2 + 1)) y329) = some r := by (try rw [hy329]); first | with_reducible exact H | with_reducible exact oS_ H | exact H
   have Ny329 := Aside0.mk hy329
   clear hy329
   have H' := Aside0.mk H
   clear H
   have p322 : 0 ≤ (x41_2 : Int) := oD_ (by first | (with_reducible assumption) | assumption)
   have q322 : x41_2 < (t318.length : Int) := oD_ (by first | (with_reducible assumption) | assumption)
   have HLL := Aside0.mk (show (lm.length : Int) = x41_2 from by rw [HLM.out, List.length_take]; omega)
   have HLL2 := Aside0.mk (show lm.length < t318.length from by rw [HLM.out, List.length_take]; omega)
   have HLP := Aside0.mk (SM.okL.size HSZ.out x41_2 p322 q322)
   have HLN := Aside0.mk (show lm ++ [rdOf ByteArray.empty t318 x41_2] = List.take ((x41_2 : Int).toNat + 1) t318 from by rw [HLM.out]; exact SM.take_rd t318 x41_2 p322 q322)
   have hwz_ : wrap64 ((bt (rdOf ByteArray.empty t318 x41_2) ji36 - 97) % 256) = (bt (rdOf ByteArray.empty t318 x41_2) ji36 - 97) % 256 := by unfold wrap64; omega
   obtain ⟨ad322, e322, hx322_0⟩ := Kd.at_string (Kd.R_reads' HO_39.out).2.2 x41_2 p322 q322
   cases e322
   replace p322 := eq_true p322
   replace q322 := eq_true q322
   try go_wp2_with (first | (at_mapUpdate; refine SM.put rfl (.tmp 46) (.tmp 47) (.tmp 48) 72 Tryz.underlying72 rfl gbM lm rfl (by (with_reducible repeat (first | refine SM.Is.drewN ?_ _ | refine SM.Is.drew ?_ | refine SM.Is.alloc ?_ _)); exact BKM.out) ?hn (rdOf ByteArray.empty t318 x41_2) ?hp rfl ?hv ?_; (case hn => have h1_ := SM.okL.len HSZ.out; have h2_ := HLL2.out; omega); (case hp => have h1_ := HLP.out; unfold maxLen; omega); (case hv => exact (congrArg (Value.int IntKind.i64) HLL.out).symm); intro w9m h1m hgm; obtain ⟨lm2, hlm2⟩ : ∃ l_ : List ByteArray, l_ = lm ++ [rdOf ByteArray.empty t318 x41_2] := ⟨_, rfl⟩; rw [← hlm2] at h1m; have HLM2 := Aside0.mk hlm2; clear hlm2; have nr0_ := Aside0.mk (SM.R_over (by (with_reducible repeat (first | apply Kd.R_alloc | apply Kd.R_drewN | apply Kd.R_drew)); exact HO_39.out) (by (with_reducible repeat (first | refine SM.Is.drewN ?_ _ | refine SM.Is.drew ?_ | refine SM.Is.alloc ?_ _)); exact BKM.out) hgm); have nr1_ := Aside0.mk (SM.R_over (by (with_reducible repeat (first | apply Kd.R_alloc | apply Kd.R_drewN | apply Kd.R_drew)); exact HO_322000.out) (by (with_reducible repeat (first | refine SM.Is.drewN ?_ _ | refine SM.Is.drew ?_ | refine SM.Is.alloc ?_ _)); exact BKM.out) hgm); have nb_ := Aside0.mk (blk_grown (g := gb310) (o := .cells #[.slice none 0 0] 31 (0, 0)) (by (with_reducible repeat (first | refine blk_drewN ?_ _ | refine blk_drew ?_ | refine blk_alloc ?_ _)); exact BK310.out) hgm (fun e_ => NBM_310.out (Option.some.inj e_).symm)); have nt_ := Aside0.mk (blk_grown (g := gb321) (by (with_reducible repeat (first | refine blk_drewN ?_ _ | refine blk_drew ?_ | refine blk_alloc ?_ _)); exact BK321.out) hgm (fun e_ => NBM_321.out (Option.some.inj e_).symm)); have nh_ := Aside0.mk (RowKit.Below.grown (by repeat (first | (with_reducible first | exact HB.out | apply below_alloc | apply pw_below_drewN | apply below_drew1) | exact HB.out)) hgm (below_size (by repeat (first | (with_reducible first | exact HB.out | apply below_alloc | apply pw_below_drewN | apply below_drew1) | exact HB.out))) (fun j hj => by cases hj; exact GEM.out)); clear HO_39 HO_322000 BK310 BK321 HB BKM; have HO_39 := nr0_; clear nr0_; have HO_322000 := nr1_; clear nr1_; have BK310 := nb_; have BK321 := nt_; have HB := nh_; have BKM := Aside0.mk h1m; clear nb_ nt_ nh_ h1m hgm) | ((with_reducible refine gate_callee (f := 55) rfl ?_); refine goesL_ (some 52) rfl rfl Tryz.func55 (by kernel_rfl) rfl #[.slice A0 l0.length c0, .string (rdOf ByteArray.empty t318 x41_2)] rfl (by (try simp only [List.map_toArray, List.map_cons, List.map_nil]); first | done | rfl | (simp only [List.length_drop, List.length_take]; rfl)) ?_; (with_reducible refine (xF35.calls k2 _ _ l0 (rdOf ByteArray.empty t318 x41_2) t323 t324 _ ?side1 HC0.out A24.out).mono ?_); (case side1 => repeat (first | exact (Kd.C_below HR0.out HB.out) | with_reducible first | apply cA_ | apply cN_ | apply cD_)); rintro e w' ⟨rfl, ⟨nd, rfl⟩⟩; refine ⟨_, rfl, ?_⟩; (try (rw [drewN_self wr]; generalize hq_ : World.drewN wr _ = wr; have n0_ : Aside0 (Kd.R k53 53 wr w.heap.size (fun _ => True) u322000 x322000_2) := ⟨by rw [← hq_]; exact (by (with_reducible repeat (first | apply Kd.R_alloc | apply Kd.R_drewN | apply Kd.R_drew)); exact HO_322000.out)⟩; have n1_ : Aside0 (Kd.R Kd.string 9 wr w.heap.size (fun _ => True) (.slice (some ad322) t318.length co20) t318) := ⟨by rw [← hq_]; exact (by (with_reducible repeat (first | apply Kd.R_alloc | apply Kd.R_drewN | apply Kd.R_drew)); exact HO_39.out)⟩; have n2_ : Aside0 (wr.heap[gb310]? = some (.cells #[.slice none 0 0] 31 (0, 0))) := ⟨by rw [← hq_]; exact (by (with_reducible repeat (first | refine blk_drewN ?_ _ | refine blk_drew ?_ | refine blk_alloc ?_ _)); exact BK310.out)⟩; have n29_ : Aside0 (SM.Is wr gbM lm2) := ⟨by rw [← hq_]; exact (by (with_reducible repeat (first | refine SM.Is.drewN ?_ _ | refine SM.Is.drew ?_ | refine SM.Is.alloc ?_ _)); exact BKM.out)⟩; have n3_ : Aside0 (wr.heap[gb321]? = some (.cells #[u322000] 31 (0, 0))) := ⟨by rw [← hq_]; exact (by (with_reducible repeat (first | refine blk_drewN ?_ _ | refine blk_drew ?_ | refine blk_alloc ?_ _)); exact BK321.out)⟩; have n4_ : Aside0 (Below w.heap.size w wr) := ⟨by rw [← hq_]; exact (by repeat (first | (with_reducible first | exact HB.out | apply below_alloc | apply pw_below_drewN | apply below_drew1 | refine below_set ?_ GW310.out | refine below_set ?_ GW321.out) | exact HB.out))⟩; clear HO_322000 HO_39 BKM BK310 BK321 HB hq_; have HO_322000 := n0_; have HO_39 := n1_; have BK310 := n2_; have BKM := n29_; have BK321 := n3_; have HB := n4_; clear n0_ n1_ n2_ n3_ n4_ n29_))) | ((with_reducible refine gate_dst (N := 13) rfl ?_); refine box_event ?hg (N := 13) ?hd (cs := #[.int .i64 0, .int .i64 0, .bool false]) (t := 53) ?hr ?_; (case hd => rfl); (case hg => rfl); (case hr => first | (go_simp; done) | (go_simp; rfl)); intro gb325 hg w43 hbox hb; have n0_ := Aside0.mk (Kd.R_below (by (with_reducible repeat (first | apply Kd.R_alloc | apply Kd.R_drewN | apply Kd.R_drew)); exact HO_39.out) hb); have n1_ := Aside0.mk (Kd.R_below (Kd.R_elderB (by (with_reducible repeat (first | apply Kd.R_alloc | apply Kd.R_drewN | apply Kd.R_drew)); exact HO_322000.out) gb325 (Nat.le_of_eq hg.symm)) hb); have n2_ := Aside0.mk (blk_below (g := gb310) (o := .cells #[.slice none 0 0] 31 (0, 0)) (by (with_reducible repeat (first | refine blk_drewN ?_ _ | refine blk_drew ?_ | refine blk_alloc ?_ _)); exact BK310.out) hb); have n29_ := Aside0.mk (SM.Is.below (l := lm2) (by (with_reducible repeat (first | refine SM.Is.drewN ?_ _ | refine SM.Is.drew ?_ | refine SM.Is.alloc ?_ _)); exact BKM.out) hb); have n3_ := Aside0.mk (blk_below (g := gb321) (o := .cells #[u322000] 31 (0, 0)) (by (with_reducible repeat (first | refine blk_drewN ?_ _ | refine blk_drew ?_ | refine blk_alloc ?_ _)); exact BK321.out) hb); have n4_ := Aside0.mk (below_step (by repeat (first | (with_reducible first | exact HB.out | apply below_alloc | apply pw_below_drewN | apply below_drew1 | refine below_set ?_ GW310.out | refine below_set ?_ GW321.out) | exact HB.out)) hb); have n5_ := Aside0.mk (hbox); have n6_ := Aside0.mk ((by rw [hg]; exact (below_size (by repeat (first | (with_reducible first | exact HB.out | apply below_alloc | apply pw_below_drewN | apply below_drew1 | refine below_set ?_ GW310.out | refine below_set ?_ GW321.out) | exact HB.out))) : w.heap.size ≤ gb325)); have n7_ := Aside0.mk ((by rw [hg]; exact (below_size (by repeat (first | (with_reducible first | exact HB.out | apply below_alloc | apply pw_below_drewN | apply below_drew1 | refine below_set ?_ GW310.out | refine below_set ?_ GW321.out) | exact HB.out))) : w.heap.size ≤ gb325)); have n8_ := Aside0.mk ((by rw [hg]; exact Nat.ne_of_lt (blk_lt (g := gb310) (o := .cells #[.slice none 0 0] 31 (0, 0)) (by (with_reducible repeat (first | refine blk_drewN ?_ _ | refine blk_drew ?_ | refine blk_alloc ?_ _)); exact BK310.out)) : gb310 ≠ gb325)); have n89_ := Aside0.mk ((by rw [hg]; exact Nat.ne_of_lt (SM.Is.lt (l := lm2) (by (with_reducible repeat (first | refine SM.Is.drewN ?_ _ | refine SM.Is.drew ?_ | refine SM.Is.alloc ?_ _)); exact BKM.out)) : gbM ≠ gb325)); have n9_ := Aside0.mk ((by rw [hg]; exact Nat.ne_of_gt (blk_lt (g := gb310) (o := .cells #[.slice none 0 0] 31 (0, 0)) (by (with_reducible repeat (first | refine blk_drewN ?_ _ | refine blk_drew ?_ | refine blk_alloc ?_ _)); exact BK310.out)) : gb325 ≠ gb310)); have n99_ := Aside0.mk ((by rw [hg]; exact Nat.ne_of_gt (SM.Is.lt (l := lm2) (by (with_reducible repeat (first | refine SM.Is.drewN ?_ _ | refine SM.Is.drew ?_ | refine SM.Is.alloc ?_ _)); exact BKM.out)) : gb325 ≠ gbM)); have n10_ := Aside0.mk ((by rw [hg]; exact Nat.ne_of_lt (blk_lt (g := gb321) (o := .cells #[u322000] 31 (0, 0)) (by (with_reducible repeat (first | refine blk_drewN ?_ _ | refine blk_drew ?_ | refine blk_alloc ?_ _)); exact BK321.out)) : gb321 ≠ gb325)); have n11_ := Aside0.mk ((by rw [hg]; exact Nat.ne_of_gt (blk_lt (g := gb321) (o := .cells #[u322000] 31 (0, 0)) (by (with_reducible repeat (first | refine blk_drewN ?_ _ | refine blk_drew ?_ | refine blk_alloc ?_ _)); exact BK321.out)) : gb325 ≠ gb321)); clear HO_39; clear HO_322000; clear BKM; clear BK310; clear BK321; clear HB; have HO_39 := n0_; have HO_322000 := n1_; have BK310 := n2_; have BKM := n29_; have BK321 := n3_; have HB := n4_; have BK325 := n5_; have GW325 := n6_; have GW325 := n7_; have NB310_325 := n8_; have NBM_325 := n89_; have NB325_310 := n9_; have NB325_M := n99_; have NB321_325 := n10_; have NB325_321 := n11_; clear n0_ n1_ n2_ n3_ n4_ n5_ n6_ n7_ n8_ n9_ n10_ n11_ n29_ n89_ n99_; clear hb hbox hg; have hnb44 := NB325_310.out; have hnc44 := NB310_325.out; have hnb45 := NB325_321.out; have hnc45 := NB321_325.out; have hcz46_0 : w43.cell? ⟨gb325, 0, none⟩ = some (.int .i64 0) := (blk_cell BK325.out 0).trans rfl; have hcz46_1 : w43.cell? ⟨gb325, 1, none⟩ = some (.int .i64 0) := (blk_cell BK325.out 1).trans rfl; have hcz46_2 : w43.cell? ⟨gb325, 2, none⟩ = some (.bool false) := (blk_cell BK325.out 2).trans rfl; have hfz46_0 := blk_frozen BK325.out 0; have hfz46_1 := blk_frozen BK325.out 1; have hfz46_2 := blk_frozen BK325.out 2))
   have n0_ : Aside0 (Kd.R Kd.string 9 (((w43.setCell ⟨gb325, 0, none⟩ (.int .i64 (-1))).setCell ⟨gb325, 1, none⟩ (.int .i64 (-1))).setCell ⟨gb325, 2, none⟩ (.bool t324)) w.heap.size (fun _ => True) (.slice (some ad322) t318.length co20) t318) := ⟨by (with_reducible repeat (first | apply Kd.R_alloc | apply Kd.R_drewN | apply Kd.R_drew)); exact Kd.R_mono (Kd.R_far (p := ⟨gb325, 2, none⟩) (Kd.R_far (p := ⟨gb325, 1, none⟩) (Kd.R_far (p := ⟨gb325, 0, none⟩) (Kd.R_types HO_39.out BK325.out (by decide)) (fun _ hk => hk.2) (.int .i64 (-1))) (fun _ hk => hk.2) (.int .i64 (-1))) (fun _ hk => hk.2) (.bool t324)) (fun _ hk => trivial)⟩
   have n1_ : Aside0 (Kd.R k53 53 (((w43.setCell ⟨gb325, 0, none⟩ (.int .i64 (-1))).setCell ⟨gb325, 1, none⟩ (.int .i64 (-1))).setCell ⟨gb325, 2, none⟩ (.bool t324)) w.heap.size (fun k_ => k_ ≠ gb325) u322000 x322000_2) := ⟨by (with_reducible repeat (first | apply Kd.R_alloc | apply Kd.R_drewN | apply Kd.R_drew)); exact Kd.R_mono (Kd.R_far (p := ⟨gb325, 2, none⟩) (Kd.R_far (p := ⟨gb325, 1, none⟩) (Kd.R_far (p := ⟨gb325, 0, none⟩) (Kd.R_mono HO_322000.out (fun k_ hk => (⟨hk, hk.2⟩ : _ ∧ k_ ≠ gb325))) (fun _ hk => hk.2) (.int .i64 (-1))) (fun _ hk => hk.2) (.int .i64 (-1))) (fun _ hk => hk.2) (.bool t324)) (fun _ hk => hk.1.2)⟩
   have n2_ : Aside0 ((((w43.setCell ⟨gb325, 0, none⟩ (.int .i64 (-1))).setCell ⟨gb325, 1, none⟩ (.int .i64 (-1))).setCell ⟨gb325, 2, none⟩ (.bool t324)).heap[gb310]? = some (.cells #[.slice none 0 0] 31 (0, 0))) := ⟨by (with_reducible repeat (first | refine blk_drewN ?_ _ | refine blk_drew ?_ | refine blk_alloc ?_ _)); refine blk_far ?_ NB310_325.out _; (with_reducible repeat (first | refine blk_drewN ?_ _ | refine blk_drew ?_ | refine blk_alloc ?_ _)); refine blk_far ?_ NB310_325.out _; (with_reducible repeat (first | refine blk_drewN ?_ _ | refine blk_drew ?_ | refine blk_alloc ?_ _)); refine blk_far ?_ NB310_325.out _; (with_reducible repeat (first | refine blk_drewN ?_ _ | refine blk_drew ?_ | refine blk_alloc ?_ _)); exact BK310.out⟩
   have n29_ : Aside0 (SM.Is (((w43.setCell ⟨gb325, 0, none⟩ (.int .i64 (-1))).setCell ⟨gb325, 1, none⟩ (.int .i64 (-1))).setCell ⟨gb325, 2, none⟩ (.bool t324)) gbM lm2) := ⟨by (with_reducible repeat (first | refine SM.Is.drewN ?_ _ | refine SM.Is.drew ?_ | refine SM.Is.alloc ?_ _)); refine SM.Is.far ?_ NBM_325.out _; (with_reducible repeat (first | refine SM.Is.drewN ?_ _ | refine SM.Is.drew ?_ | refine SM.Is.alloc ?_ _)); refine SM.Is.far ?_ NBM_325.out _; (with_reducible repeat (first | refine SM.Is.drewN ?_ _ | refine SM.Is.drew ?_ | refine SM.Is.alloc ?_ _)); refine SM.Is.far ?_ NBM_325.out _; (with_reducible repeat (first | refine SM.Is.drewN ?_ _ | refine SM.Is.drew ?_ | refine SM.Is.alloc ?_ _)); exact BKM.out⟩
   have n3_ : Aside0 ((((w43.setCell ⟨gb325, 0, none⟩ (.int .i64 (-1))).setCell ⟨gb325, 1, none⟩ (.int .i64 (-1))).setCell ⟨gb325, 2, none⟩ (.bool t324)).heap[gb321]? = some (.cells #[u322000] 31 (0, 0))) := ⟨by (with_reducible repeat (first | refine blk_drewN ?_ _ | refine blk_drew ?_ | refine blk_alloc ?_ _)); refine blk_far ?_ NB321_325.out _; (with_reducible repeat (first | refine blk_drewN ?_ _ | refine blk_drew ?_ | refine blk_alloc ?_ _)); refine blk_far ?_ NB321_325.out _; (with_reducible repeat (first | refine blk_drewN ?_ _ | refine blk_drew ?_ | refine blk_alloc ?_ _)); refine blk_far ?_ NB321_325.out _; (with_reducible repeat (first | refine blk_drewN ?_ _ | refine blk_drew ?_ | refine blk_alloc ?_ _)); exact BK321.out⟩
   have n4_ : Aside0 ((((w43.setCell ⟨gb325, 0, none⟩ (.int .i64 (-1))).setCell ⟨gb325, 1, none⟩ (.int .i64 (-1))).setCell ⟨gb325, 2, none⟩ (.bool t324)).heap[gb325]? = some (.cells #[.int .i64 (-1), .int .i64 (-1), .bool t324] 53 (0, 0))) := ⟨by (with_reducible repeat (first | refine blk_drewN ?_ _ | refine blk_drew ?_ | refine blk_alloc ?_ _)); refine blk_put (cs := #[.int .i64 (-1), .int .i64 (-1), .bool false]) ?_ 2 _ rfl; (with_reducible repeat (first | refine blk_drewN ?_ _ | refine blk_drew ?_ | refine blk_alloc ?_ _)); refine blk_put (cs := #[.int .i64 (-1), .int .i64 0, .bool false]) ?_ 1 _ rfl; (with_reducible repeat (first | refine blk_drewN ?_ _ | refine blk_drew ?_ | refine blk_alloc ?_ _)); refine blk_put (cs := #[.int .i64 0, .int .i64 0, .bool false]) ?_ 0 _ rfl; (with_reducible repeat (first | refine blk_drewN ?_ _ | refine blk_drew ?_ | refine blk_alloc ?_ _)); exact BK325.out⟩
   have n5_ : Aside0 (Below w.heap.size w (((w43.setCell ⟨gb325, 0, none⟩ (.int .i64 (-1))).setCell ⟨gb325, 1, none⟩ (.int .i64 (-1))).setCell ⟨gb325, 2, none⟩ (.bool t324))) := ⟨by repeat (first | (with_reducible first | exact HB.out | apply below_alloc | apply pw_below_drewN | apply below_drew1 | refine below_set ?_ GW310.out | refine below_set ?_ GW321.out | refine below_set ?_ GW325.out) | exact HB.out)⟩
   (try clear HO_39)
   (try clear HO_322000)
   (try clear BK310); (try clear BKM)
   (try clear BK321)
   (try clear BK325)
   (try clear HB)
   generalize (((w43.setCell ⟨gb325, 0, none⟩ (.int .i64 (-1))).setCell ⟨gb325, 1, none⟩ (.int .i64 (-1))).setCell ⟨gb325, 2, none⟩ (.bool t324)) = w47 at n0_ n1_ n2_ n3_ n4_ n5_ n29_ ⊢
   have HO_39 := n0_
   have HO_322000 := n1_
   have BK310 := n2_
   have BKM := n29_
   have BK321 := n3_
   have BK325 := n4_
   have HB := n5_
   clear n0_ n1_ n2_ n3_ n4_ n5_ n29_
   have n0_ := Aside0.mk (Kd.R_drew HO_39.out)
   have n1_ := Aside0.mk (Kd.R_drew HO_322000.out)
   have n2_ := Aside0.mk (blk_drew BK310.out)
   have n29_ := Aside0.mk (SM.Is.drew BKM.out)
   have n3_ := Aside0.mk (blk_drew BK321.out)
   have n4_ := Aside0.mk (blk_drew BK325.out)
   have n5_ := Aside0.mk (below_drew1 HB.out)
   clear HO_39
   clear HO_322000
   clear BKM; clear BK310
   clear BK321
   clear BK325
   clear HB
   have HO_39 := n0_
   have HO_322000 := n1_
   have BK310 := n2_
   have BKM := n29_
   have BK321 := n3_
   have BK325 := n4_
   have HB := n5_
   clear n0_ n1_ n2_ n3_ n4_ n5_ n29_
   have p39 : 0 ≤ ((ji36) : Int) := oD_ (by first | (with_reducible assumption) | assumption)
   have q39 : (ji36) < ((rdOf ByteArray.empty t318 x41_2).size : Int) := oD_ (by first | (with_reducible assumption) | assumption)
   have hx39 := bt_at (rdOf ByteArray.empty t318 x41_2) (ji36)
   replace p39 := eq_true p39
   replace q39 := eq_true q39
   refine start_ (n := 18) (S := fun w' => SM.Is w' gbM lm2) (ds := []) #[false, false, false, false, false, false, false, false, false, false, false, false, false, false, false, false, false, false] (by kernel_rfl) rfl rfl (SM.Is.drew BKM.out) (fun hHeld => ?_); refine with_tabW iF19.tab20 iF19.bits20 (fun HT_ HW_ => ?_)
   generalize w47.drew = w48 at HO_39 HO_322000 BKM BK310 BK321 BK325 HB hHeld ⊢
   refine pure_ (i := 0) (N := some 59) (v := ?_) (a' := ?_) #[true, false, false, false, false, false, false, false, false, false, false, false, false, false, false, false, false, false] rfl rfl (any_of HT_.out (by kernel_rfl)) (fun _ _ _ h => h) (Or.inl ⟨by rfl, ?_⟩) ?_ ?_
   rotate_left
   ·
    intro w'
    go_simp
    with_reducible rfl
   rotate_left
   ·
    simp only [Act.put, List.setIfInBounds_toArray, List.set_cons_zero, List.set_cons_succ, i64_w, i32_w]
    rfl
   refine pure_ (i := 1) (N := some 60) (v := ?_) (a' := ?_) #[true, true, false, false, false, false, false, false, false, false, false, false, false, false, false, false, false, false] rfl rfl (any_of HT_.out (by kernel_rfl)) (fun _ _ _ h => h) (Or.inl ⟨by rfl, ?_⟩) ?_ ?_
   rotate_left
   ·
    intro w'
    go_simp
    with_reducible rfl
   rotate_left
   ·
    simp only [Act.put, List.setIfInBounds_toArray, List.set_cons_zero, List.set_cons_succ, i64_w, i32_w]
    rfl
   refine pure_ (i := 2) (N := some 61) (v := ?_) (a' := ?_) #[true, true, true, false, false, false, false, false, false, false, false, false, false, false, false, false, false, false] rfl rfl (any_of HT_.out (by kernel_rfl)) (fun _ _ _ h => h) (Or.inl ⟨by rfl, ?_⟩) ?_ ?_
   rotate_left
   ·
    intro w'
    go_simp
    with_reducible rfl
   rotate_left
   ·
    simp only [Act.put, List.setIfInBounds_toArray, List.set_cons_zero, List.set_cons_succ, i64_w, i32_w]
    rfl
   refine pure_ (i := 3) (N := some 62) (v := ?_) (a' := ?_) #[true, true, true, true, false, false, false, false, false, false, false, false, false, false, false, false, false, false] rfl rfl (any_of HT_.out (by kernel_rfl)) (fun _ _ _ h => h) (Or.inl ⟨by rfl, ?_⟩) ?_ ?_
   rotate_left
   ·
    intro w'
    go_simp
    with_reducible rfl
   rotate_left
   ·
    simp only [Act.put, List.setIfInBounds_toArray, List.set_cons_zero, List.set_cons_succ, i64_w, i32_w]
    rfl
   refine pure_ (i := 7) (N := some 66) (v := ?_) (a' := ?_) #[true, true, true, true, false, false, false, true, false, false, false, false, false, false, false, false, false, false] rfl rfl (any_of HT_.out (by kernel_rfl)) (fun _ _ _ h => h) (Or.inl ⟨by rfl, ?_⟩) ?_ ?_
   rotate_left
   ·
    intro w'
    go_simp
    with_reducible rfl
   rotate_left
   ·
    simp only [Act.put, List.setIfInBounds_toArray, List.set_cons_zero, List.set_cons_succ, i64_w, i32_w]
    rfl
   refine pure_ (i := 8) (N := some 67) (v := ?_) (a' := ?_) #[true, true, true, true, false, false, false, true, true, false, false, false, false, false, false, false, false, false] rfl rfl (any_of HT_.out (by kernel_rfl)) (fun _ _ _ h => h) (Or.inl ⟨by rfl, ?_⟩) ?_ ?_
   rotate_left
   ·
    intro w'
    go_simp
    with_reducible rfl
   rotate_left
   ·
    simp only [Act.put, List.setIfInBounds_toArray, List.set_cons_zero, List.set_cons_succ, i64_w, i32_w]
    rfl
   refine pure_ (i := 9) (N := some 68) (v := ?_) (a' := ?_) #[true, true, true, true, false, false, false, true, true, true, false, false, false, false, false, false, false, false] rfl rfl (any_of HT_.out (by kernel_rfl)) (fun _ _ _ h => h) (Or.inl ⟨by rfl, ?_⟩) ?_ ?_
   rotate_left
   ·
    intro w'
    go_simp
    with_reducible rfl
   rotate_left
   ·
    simp only [Act.put, List.setIfInBounds_toArray, List.set_cons_zero, List.set_cons_succ, i64_w, i32_w]
    rfl
   refine pure_ (i := 10) (N := some 69) (v := ?_) (a' := ?_) #[true, true, true, true, false, false, false, true, true, true, true, false, false, false, false, false, false, false] rfl rfl (any_of HT_.out (by kernel_rfl)) (fun _ _ _ h => h) (Or.inl ⟨by rfl, ?_⟩) ?_ ?_
   rotate_left
   ·
    intro w'
    go_simp
    with_reducible rfl
   rotate_left
   ·
    simp only [Act.put, List.setIfInBounds_toArray, List.set_cons_zero, List.set_cons_succ, i64_w, i32_w]
    rfl
   refine pure_ (i := 11) (N := some 70) (v := ?_) (a' := ?_) #[true, true, true, true, false, false, false, true, true, true, true, true, false, false, false, false, false, false] rfl rfl (any_of HT_.out (by kernel_rfl)) (fun _ _ _ h => h) (Or.inl ⟨by rfl, ?_⟩) ?_ ?_
   rotate_left
   ·
    intro w'
    go_simp
    with_reducible rfl
   rotate_left
   ·
    simp only [Act.put, List.setIfInBounds_toArray, List.set_cons_zero, List.set_cons_succ, i64_w, i32_w]
    rfl
   refine pure_ (i := 12) (N := some 71) (v := ?_) (a' := ?_) #[true, true, true, true, false, false, false, true, true, true, true, true, true, false, false, false, false, false] rfl rfl (any_of HT_.out (by kernel_rfl)) (fun _ _ _ h => h) (Or.inl ⟨by rfl, ?_⟩) ?_ ?_
   rotate_left
   ·
    intro w'
    go_simp
    with_reducible rfl
   rotate_left
   ·
    simp only [Act.put, List.setIfInBounds_toArray, List.set_cons_zero, List.set_cons_succ, i64_w, i32_w]
    rfl
   refine take_ (i := 13) (N := some 72) (v := ?_) (a' := ?_) #[true, true, true, true, false, false, false, true, true, true, true, true, true, true, false, false, false, false] rfl rfl (take_ofW HT_.out HW_.out (by kernel_rfl)) (fun _ _ _ h => h) (Or.inl ⟨by rfl, ?_⟩) hHeld ?_ ?_
   rotate_left
   ·
    intro w' hS_
    have hlk_ := SM.get hS_ 72 Tryz.underlying72 ((rdOf ByteArray.empty t318 x41_2).extract 0 ((ji36) : Int).toNat) (SM.size_ext _ _ HLP.out)
    rw [show SM.at_ lm2 ((rdOf ByteArray.empty t318 x41_2).extract 0 ((ji36) : Int).toNat) = mv from by rw [HLM2.out, HLN.out]; exact HMV.out] at hlk_
    go_simp
    with_reducible rfl
   rotate_left
   ·
    simp only [Act.put, List.setIfInBounds_toArray, List.set_cons_zero, List.set_cons_succ, i64_w, i32_w]
    rfl
   refine take_ (i := 4) (N := some 63) (v := ?_) (a' := ?_) #[true, true, true, true, true, false, false, true, true, true, true, true, true, true, false, false, false, false] rfl rfl (take_ofW HT_.out HW_.out (by kernel_rfl)) (fun _ _ _ h => h) (Or.inl ⟨by rfl, ?_⟩) hHeld ?_ ?_
   rotate_left
   ·
    intro w' _
    go_simp
    with_reducible rfl
   rotate_left
   ·
    simp only [Act.put, List.setIfInBounds_toArray, List.set_cons_zero, List.set_cons_succ, i64_w, i32_w]
    rfl
   refine pure_ (i := 5) (N := some 64) (v := ?_) (a' := ?_) #[true, true, true, true, true, true, false, true, true, true, true, true, true, true, false, false, false, false] rfl rfl (any_of HT_.out (by kernel_rfl)) (fun _ _ _ h => h) (Or.inl ⟨by rfl, ?_⟩) ?_ ?_
   rotate_left
   ·
    intro w'
    go_simp
    with_reducible rfl
   rotate_left
   ·
    simp only [Act.put, List.setIfInBounds_toArray, List.set_cons_zero, List.set_cons_succ, i64_w, i32_w]
    rfl
   refine pure_ (i := 6) (N := some 65) (v := ?_) (a' := ?_) #[true, true, true, true, true, true, true, true, true, true, true, true, true, true, false, false, false, false] rfl rfl (any_of HT_.out (by kernel_rfl)) (fun _ _ _ h => h) (Or.inl ⟨by rfl, ?_⟩) ?_ ?_
   rotate_left
   ·
    intro w'
    go_simp
    with_reducible rfl
   rotate_left
   ·
    simp only [Act.put, List.setIfInBounds_toArray, List.set_cons_zero, List.set_cons_succ, i64_w, i32_w]
    rfl
   refine pure_ (i := 14) (N := some 73) (v := ?_) (a' := ?_) #[true, true, true, true, true, true, true, true, true, true, true, true, true, true, true, false, false, false] rfl rfl (any_of HT_.out (by kernel_rfl)) (fun _ _ _ h => h) (Or.inl ⟨by rfl, ?_⟩) ?_ ?_
   rotate_left
   ·
    intro w'
    go_simp
    with_reducible rfl
   rotate_left
   ·
    simp only [Act.put, List.setIfInBounds_toArray, List.set_cons_zero, List.set_cons_succ, i64_w, i32_w]
    rfl
   refine one_ (i := 15) (N := none) #[true, true, true, true, true, true, true, true, true, true, true, true, true, true, true, true, false, false] rfl rfl (one_of HT_.out (by kernel_rfl)) (by decide) (fun K hK => ?_)
   have hs49 : w48.cell? ⟨gb325, 0, none⟩ = some (.int .i64 (-1)) := (blk_cell BK325.out 0).trans rfl
   have hfs49 := blk_frozen BK325.out 0
   have hns49_0 := NB310_325.out
   have hns49_1 := NB321_325.out
   have hms49_0 := NB325_310.out
   have hms49_1 := NB325_321.out
   refine skip_ (w1 := ?_) (by rfl) rfl ?_ ?_
   rotate_left
   ·
    go_simp
    rfl
   refine hK.out _ _ (by exact SM.Is.far hHeld NBM_325.out _) (fun hHeld => ?_)
   clear hK K
   refine pure_ (i := 16) (N := some 74) (v := ?_) (a' := ?_) #[true, true, true, true, true, true, true, true, true, true, true, true, true, true, true, true, true, false] rfl rfl (any_of HT_.out (by kernel_rfl)) (fun _ _ _ h => h) (Or.inl ⟨by rfl, ?_⟩) ?_ ?_
   rotate_left
   ·
    intro w'
    go_simp
    with_reducible rfl
   rotate_left
   ·
    simp only [Act.put, List.setIfInBounds_toArray, List.set_cons_zero, List.set_cons_succ, i64_w, i32_w]
    rfl
   refine one_ (i := 17) (N := none) #[true, true, true, true, true, true, true, true, true, true, true, true, true, true, true, true, true, true] rfl rfl (one_of HT_.out (by kernel_rfl)) (by decide) (fun K hK => ?_)
   have hs50 : w48.cell? ⟨gb325, 1, none⟩ = some (.int .i64 (-1)) := (blk_cell BK325.out 1).trans rfl
   have hfs50 := blk_frozen BK325.out 1
   have hns50_0 := NB310_325.out
   have hns50_1 := NB321_325.out
   have hms50_0 := NB325_310.out
   have hms50_1 := NB325_321.out
   refine skip_ (w1 := ?_) (by rfl) rfl ?_ ?_
   rotate_left
   ·
    go_simp
    rfl
   refine hK.out _ _ (by exact SM.Is.far hHeld NBM_325.out _) (fun hHeld => ?_)
   clear hK K
   refine done_ (done_of HT_.out (by kernel_rfl)) ?_
   have hnb51 := NB321_310.out
   have hnc51 := NB310_321.out
   have hcz52_0 : w48.cell? ⟨gb321, 0, none⟩ = some (u322000) := (blk_cell BK321.out 0).trans rfl
   have hfz52_0 := blk_frozen BK321.out 0
   have hcz53_0 : w48.cell? ⟨gb325, 0, none⟩ = some (.int .i64 (-1)) := (blk_cell BK325.out 0).trans rfl
   have hcz53_1 : w48.cell? ⟨gb325, 1, none⟩ = some (.int .i64 (-1)) := (blk_cell BK325.out 1).trans rfl
   have hcz53_2 : w48.cell? ⟨gb325, 2, none⟩ = some (.bool t324) := (blk_cell BK325.out 2).trans rfl
   have hfz53_0 := blk_frozen BK325.out 0
   have hfz53_1 := blk_frozen BK325.out 1
   have hfz53_2 := blk_frozen BK325.out 2
   try go_wp2_with (first | ((with_reducible refine gate_builtin (b := .append) (xs := #[.tmp 76, .tmp 78]) rfl ?_); at_builtin; refine Kd.R_append k53 (w0 := w) w.heap.size rfl (.tmp 76) (.tmp 78) 29 53 (.agg #[(.int .i64 0), (.int .i64 0), (.bool false)]) 24 rfl Tryz.underlying29 info53 rfl (by decide) (by omega) u322000 x322000_2 (⟨((bt (rdOf ByteArray.empty t318 x41_2) (ji36)) - 97) % 256, mv, t324⟩ : S53) [.int .i64 (((bt (rdOf ByteArray.empty t318 x41_2) (ji36)) - 97) % 256), .int .i64 mv, .bool t324] (fun k_ => k_ ≠ gb325) (fun _ => False) rfl (by first | (go_simp; done) | (go_simp; rfl)) ?aP (fun _ hk => hk.elim) ?aF ?aO ?aB ?aS ?aL ?_; (case aP => exact k53_mkM _ _ _ (⟨((bt (rdOf ByteArray.empty t318 x41_2) (ji36)) - 97) % 256, mv, t324⟩ : S53)); (case aB => exact (by repeat (first | (with_reducible first | exact HB.out | apply below_alloc | apply pw_below_drewN | apply below_drew1 | refine below_set ?_ GW310.out | refine below_set ?_ GW321.out | refine below_set ?_ GW325.out) | exact HB.out))); (case aF => exact (fun k_ hk => Kd.freshB (g := gb325) (o := .cells #[.int .i64 (((bt (rdOf ByteArray.empty t318 x41_2) (ji36)) - 97) % 256), .int .i64 mv, .bool t324] 53 (0, 0)) (by (with_reducible repeat (first | refine blk_drewN ?_ _ | refine blk_drew ?_ | refine blk_alloc ?_ _)); refine blk_put (cs := #[.int .i64 (((bt (rdOf ByteArray.empty t318 x41_2) (ji36)) - 97) % 256), .int .i64 (-1), .bool t324]) ?_ 1 _ rfl; (with_reducible repeat (first | refine blk_drewN ?_ _ | refine blk_drew ?_ | refine blk_alloc ?_ _)); refine blk_put (cs := #[.int .i64 (-1), .int .i64 (-1), .bool t324]) ?_ 0 _ rfl; (with_reducible repeat (first | refine blk_drewN ?_ _ | refine blk_drew ?_ | refine blk_alloc ?_ _)); exact BK325.out) k_ hk)); (case aO => exact (by (with_reducible repeat (first | apply Kd.R_alloc | apply Kd.R_drewN | apply Kd.R_drew)); exact Kd.R_mono (Kd.R_far (p := ⟨gb325, 1, none⟩) (Kd.R_far (p := ⟨gb325, 0, none⟩) (Kd.R_mono HO_322000.out (fun k_ hk => (⟨hk, hk⟩ : _ ∧ k_ ≠ gb325))) (fun _ hk => hk.2) (.int .i64 (((bt (rdOf ByteArray.empty t318 x41_2) (ji36)) - 97) % 256))) (fun _ hk => hk.2) (.int .i64 mv)) (fun _ hk => hk.1))); (case aS => exact (below_size (by repeat (first | (with_reducible first | exact HB.out | apply below_alloc | apply pw_below_drewN | apply below_drew1 | refine below_set ?_ GW310.out | refine below_set ?_ GW321.out | refine below_set ?_ GW325.out) | exact HB.out)))); (case aL => have := LMc42.out; omega); intro v330 w54 ho hb hg hat; rw [← Ny329.out] at ho; have n0_ := Aside0.mk (Kd.R_over' (by (with_reducible repeat (first | apply Kd.R_alloc | apply Kd.R_drewN | apply Kd.R_drew)); exact (Kd.R_mono (Kd.R_far (p := ⟨gb325, 1, none⟩) (Kd.R_far (p := ⟨gb325, 0, none⟩) (Kd.R_types HO_39.out BK325.out (by decide)) (fun _ hk => hk.2) (.int .i64 (((bt (rdOf ByteArray.empty t318 x41_2) (ji36)) - 97) % 256))) (fun _ hk => hk.2) (.int .i64 mv)) (fun _ h_ => h_.1))) (Kd.R_typed (by (with_reducible repeat (first | apply Kd.R_alloc | apply Kd.R_drewN | apply Kd.R_drew)); exact (Kd.R_mono (Kd.R_far (p := ⟨gb325, 1, none⟩) (Kd.R_far (p := ⟨gb325, 0, none⟩) (Kd.R_mono HO_322000.out (fun k_ hk => (⟨hk, hk⟩ : _ ∧ k_ ≠ gb325))) (fun _ hk => hk.2) (.int .i64 (((bt (rdOf ByteArray.empty t318 x41_2) (ji36)) - 97) % 256))) (fun _ hk => hk.2) (.int .i64 mv)) (fun _ h_ => h_.1)))) (by decide) hg); have n1_ := Aside0.mk (blk_grown (g := gb310) (o := .cells #[.slice none 0 0] 31 (0, 0)) (by (with_reducible repeat (first | refine blk_drewN ?_ _ | refine blk_drew ?_ | refine blk_alloc ?_ _)); refine blk_far ?_ NB310_325.out _; (with_reducible repeat (first | refine blk_drewN ?_ _ | refine blk_drew ?_ | refine blk_alloc ?_ _)); refine blk_far ?_ NB310_325.out _; (with_reducible repeat (first | refine blk_drewN ?_ _ | refine blk_drew ?_ | refine blk_alloc ?_ _)); exact BK310.out) hg (Kd.R_ne HO_322000.out BK310.out (by decide))); have n19_ := Aside0.mk (SM.Is.grown (l := lm2) (by (with_reducible repeat (first | refine SM.Is.drewN ?_ _ | refine SM.Is.drew ?_ | refine SM.Is.alloc ?_ _)); refine SM.Is.far ?_ NBM_325.out _; (with_reducible repeat (first | refine SM.Is.drewN ?_ _ | refine SM.Is.drew ?_ | refine SM.Is.alloc ?_ _)); refine SM.Is.far ?_ NBM_325.out _; (with_reducible repeat (first | refine SM.Is.drewN ?_ _ | refine SM.Is.drew ?_ | refine SM.Is.alloc ?_ _)); exact BKM.out) hg (SM.Is.ne BKM.out HO_322000.out)); have n2_ := Aside0.mk (blk_grown (g := gb321) (o := .cells #[u322000] 31 (0, 0)) (by (with_reducible repeat (first | refine blk_drewN ?_ _ | refine blk_drew ?_ | refine blk_alloc ?_ _)); refine blk_far ?_ NB321_325.out _; (with_reducible repeat (first | refine blk_drewN ?_ _ | refine blk_drew ?_ | refine blk_alloc ?_ _)); refine blk_far ?_ NB321_325.out _; (with_reducible repeat (first | refine blk_drewN ?_ _ | refine blk_drew ?_ | refine blk_alloc ?_ _)); exact BK321.out) hg (Kd.R_ne HO_322000.out BK321.out (by decide))); have n3_ := Aside0.mk (blk_grown (g := gb325) (o := .cells #[.int .i64 (((bt (rdOf ByteArray.empty t318 x41_2) (ji36)) - 97) % 256), .int .i64 mv, .bool t324] 53 (0, 0)) (by (with_reducible repeat (first | refine blk_drewN ?_ _ | refine blk_drew ?_ | refine blk_alloc ?_ _)); refine blk_put (cs := #[.int .i64 (((bt (rdOf ByteArray.empty t318 x41_2) (ji36)) - 97) % 256), .int .i64 (-1), .bool t324]) ?_ 1 _ rfl; (with_reducible repeat (first | refine blk_drewN ?_ _ | refine blk_drew ?_ | refine blk_alloc ?_ _)); refine blk_put (cs := #[.int .i64 (-1), .int .i64 (-1), .bool t324]) ?_ 0 _ rfl; (with_reducible repeat (first | refine blk_drewN ?_ _ | refine blk_drew ?_ | refine blk_alloc ?_ _)); exact BK325.out) hg (Kd.R_away HO_322000.out (fun _ hk => hk))); have n4_ := Aside0.mk (hb); have n5_ := Aside0.mk (ho); clear HO_39; clear BKM; clear BK310; clear BK321; clear BK325; clear HB; clear HO_322000; have HO_39 := n0_; have BK310 := n1_; have BKM := n19_; have BK321 := n2_; have BK325 := n3_; have HB := n4_; have HO331 := n5_; clear n0_ n1_ n2_ n3_ n4_ n5_ n19_; clear ho hb hg hat; obtain ⟨Ao55, co55, eo55⟩ := Kd.R_slice HO331.out; subst eo55; have hcz56_0 : w54.cell? ⟨gb321, 0, none⟩ = some (u322000) := (blk_cell BK321.out 0).trans rfl; have hfz56_0 := blk_frozen BK321.out 0))
   go_roundg k2
   case measure => have := HK1.out; have := HK2.out; omega
   case rel => exact ⟨(wrap64 (x41_2 + 1)), (y329), (.slice Ao55 y329.length co55), (by first | rfl | (simp; done) | (simp [*]; done)), H', ⟨by have := HK1.out; have := HK2.out; omega⟩, ⟨by (with_reducible repeat (first | apply Kd.R_alloc | apply Kd.R_drewN | apply Kd.R_drew)); exact Kd.R_mono (Kd.R_far (p := ⟨gb321, 0, none⟩) (Kd.R_types HO_39.out BK321.out (by decide)) (fun _ hk => hk.2) (.slice Ao55 y329.length co55)) (fun _ hk => trivial)⟩, ⟨by (with_reducible repeat (first | apply Kd.R_alloc | apply Kd.R_drewN | apply Kd.R_drew)); exact Kd.R_mono (Kd.R_far (p := ⟨gb321, 0, none⟩) (Kd.R_types HO331.out BK321.out (by decide)) (fun _ hk => hk.2) (.slice Ao55 y329.length co55)) (fun _ hk => trivial)⟩, ⟨by (with_reducible repeat (first | refine blk_drewN ?_ _ | refine blk_drew ?_ | refine blk_alloc ?_ _)); refine blk_far ?_ NB310_321.out _; (with_reducible repeat (first | refine blk_drewN ?_ _ | refine blk_drew ?_ | refine blk_alloc ?_ _)); exact BK310.out⟩, ⟨by (with_reducible repeat (first | refine blk_drewN ?_ _ | refine blk_drew ?_ | refine blk_alloc ?_ _)); refine blk_put (cs := #[u322000]) ?_ 0 _ rfl; (with_reducible repeat (first | refine blk_drewN ?_ _ | refine blk_drew ?_ | refine blk_alloc ?_ _)); exact BK321.out⟩, ⟨by repeat (first | (with_reducible first | exact HB.out | apply below_alloc | apply pw_below_drewN | apply below_drew1 | refine below_set ?_ GW310.out | refine below_set ?_ GW321.out | refine below_set ?_ GW325.out) | exact HB.out)⟩, ⟨by rw [SM.next_rd t318 x41_2 lm2 HLM2.out HLN.out HLL.out HLL2.out HSZ.out]; (with_reducible repeat (first | refine SM.Is.drewN ?_ _ | refine SM.Is.drew ?_ | refine SM.Is.alloc ?_ _)); refine SM.Is.far ?_ NBM_321.out _; (with_reducible repeat (first | refine SM.Is.drewN ?_ _ | refine SM.Is.drew ?_ | refine SM.Is.alloc ?_ _)); exact BKM.out⟩⟩
set_option maxHeartbeats 1000000 in
theorem xF0.lit (q : ByteArray → Bool) (gs : Nat) (lbs : Array Value) (eg : ∀ args w, (callFunc gs args).run Tryz.prog w = .ok (.enter gs args) w) (B : Nat) (x : ByteArray) (W : World) (hc : W.cell? ⟨B, 0, none⟩ = some (.func (.func gs) #[] lbs))
  (hq : Calls Tryz.prog gs (#[.string x] ++ lbs) W fun e W' => e = .returned (.bool (q x)) ∧ Below W.heap.size W W') :
  Calls Tryz.prog 44 #[.string x, .pointer (some ⟨B, 0, none⟩)] W fun e W' => e = .returned (.bool (!q x)) ∧ Below W.heap.size W W' := by
 go_enter Tryz.func44, Tryz.ntmps44
 go_wp2_with fail
 refine hq.mono ?_
 rintro e W' ⟨rfl, hb0⟩
 have hb := Aside0.mk hb0
 clear hb0
 go_wp2_with fail
 go_ret
 exact ⟨rfl, hb.out⟩
set_option maxHeartbeats 4000000 in
theorem xF0.calls (k : Nat) (q : ByteArray → Bool) (gs : Nat) (lbs : Array Value) (eg : ∀ args w, (callFunc gs args).run Tryz.prog w = .ok (.enter gs args) w) (A0 : Option Addr) (c0 : Nat) (l0 : List S53) (ws : List ByteArray) (N : List S53) (w : World)
  (hr0 : Kd.C k53 w A0 l0.length l0) (hc0 : l0.length ≤ c0) (hw : iF10.f k l0 = some ws) (hl : ws.length ≤ 9223372036854775807) (ht : iF19.f k (ws.filter q) = some N)
  (hq : ∀ W x, x ∈ ws → Kept w W (fun _ => False) → Calls Tryz.prog gs (#[.string x] ++ lbs) W fun e W' => e = .returned (.bool (q x)) ∧ Below W.heap.size W W') :
  Calls Tryz.prog 21 #[.agg #[.slice A0 l0.length c0], .func (.func gs) #[] lbs] w fun e w' => ∃ v0_ : Value, e = .returned (.agg #[v0_]) ∧ Kd.R k53 53 w' w.heap.size (fun _ => True) v0_ N ∧ Below w.heap.size w w' := by
 have HQ := Aside0.mk hq
 have HG := Aside0.mk hl
 have EG := Aside0.mk eg
 have HT := Aside0.mk ht
 obtain ⟨V, hV⟩ : ∃ V, V = ((w.alloc (.cells #[.slice A0 l0.length c0] 31)).alloc (.cells #[.func (.func gs) #[] lbs] 40)).alloc (.cells #[.slice none 0 0] 31) := ⟨_, rfl⟩
 have HW1 := Aside0.mk ((Below.refl w.heap.size w).alloc (Nat.le_refl _) (.cells #[.slice A0 l0.length c0] 31))
 have HW2 := Aside0.mk (HW1.out.alloc (by simp) (.cells #[.func (.func gs) #[] lbs] 40))
 have HW3 := HW2.out.alloc (by simp; omega) (.cells #[.slice none 0 0] 31)
 rw [← hV] at HW3
 have HV := Aside0.mk HW3
 have HVS := Aside0.mk (show V.heap.size = w.heap.size + 3 from by rw [hV]; simp)
 have c1 := Aside0.mk (show V.cell? ⟨w.heap.size + 1, 0, none⟩ = some (.func (.func gs) #[] lbs) from (blk_cell (show V.heap[w.heap.size + 1]? = some (.cells #[.func (.func gs) #[] lbs] 40 (0, 0)) from by rw [hV]; show (((w.heap.push _).push _).push _)[w.heap.size + 1]? = _; rw [Array.getElem?_push, if_neg (by simp), Array.getElem?_push, if_pos (by simp)]) 0).trans rfl)
 have b2 := Aside0.mk (show V.heap[w.heap.size + 2]? = some (.cells #[.slice none 0 0] 31 (0, 0)) from by rw [hV]; show (((w.heap.push _).push _).push _)[w.heap.size + 2]? = _; rw [Array.getElem?_push, if_pos (by simp)])
 have HC := Aside0.mk (iF10.calls k A0 c0 l0 ws V (Kd.C_below hr0 HW3) hc0 hw)
 clear HW3 hr0 hw hq hl ht eg
 go_enter Tryz.func21, Tryz.ntmps21
 go_wp2_with fail
 rw [← hV]
 clear hV
 refine HC.out.mono ?_
 clear HC
 rintro e w1 ⟨v, rfl, hr, hb⟩
 obtain ⟨A, c, hv⟩ := Kd.R_slice hr
 subst hv
 have HB := Aside0.mk hb
 have C1 := Aside0.mk ((hb.cell (p := ⟨w.heap.size + 1, 0, none⟩) (by have := HVS.out; simp; omega)).trans c1.out)
 have HD := Aside0.mk (xF2.calls (fun x => !q x) 44 #[.pointer (some ⟨w.heap.size + 1, 0, none⟩)] (Go.Proofs.enters_of Tryz.func44 (by kernel_rfl) rfl) (fun _ => True) V.heap.size A c ws w1 hb.size hr HG.out
  (fun W x hm hk => xF0.lit q gs lbs EG.out (w.heap.size + 1) x W (Go.Proofs.YtjpepfdpihojfaaGreatDoorW.PrintWords.cell_kept C1.out hk (by have := HVS.out; simp; omega)) (HQ.out W x hm (((Kept.of_below HV.out _).below hb).then_ hk (fun k hk => .inr (by have := HVS.out; omega))))))
 clear hr hb
 go_wp2_with fail
 refine HD.out.mono ?_
 clear HD
 rintro e w2 ⟨v2, rfl, hr2, hb2⟩
 have HB2 := Aside0.mk (HB.out.trans hb2)
 have hr2' := hr2
 simp only [DF.keep, Bool.not_not] at hr2'
 clear hr2 hb2
 obtain ⟨A2, c2, hv2⟩ := Kd.R_slice hr2'
 subst hv2
 have HX := Aside0.mk (iF19.calls k A2 c2 (ws.filter q) N w2 (Kd.R_reads' hr2').2.2 (Kd.R_reads' hr2').2.1 HT.out)
 clear hr2'
 go_wp2_with fail
 refine HX.out.mono ?_
 clear HX
 rintro e w3 ⟨v3, rfl, hr3, hb3⟩
 have HB3 := Aside0.mk (HB2.out.trans (hb3.mono HB2.out.size))
 have HR3 := Aside0.mk hr3
 have B2 := blk_below b2.out HB3.out
 have hk0 : w3.cell? ⟨w.heap.size + 2, 0, none⟩ = some (.slice none 0 0) := (blk_cell B2 0).trans rfl
 have hf0 := blk_frozen B2 0
 have HB4 := Aside0.mk B2
 obtain ⟨A3, c3, hv3⟩ := Kd.R_slice hr3
 subst hv3
 clear B2 hr3 hb3
 go_wp2_with fail
 refine bodyPost_ret (results_cell_row rfl _ _ (w.heap.size + 2) 31 #[.slice A3 N.length c3] (0, 0) _ rfl (by refine blk_put (cs := #[.slice none 0 0]) ?_ 0 _ rfl; exact HB4.out) Tryz.underlying31 rfl (by kernel_rfl)) rfl ?_
 refine ⟨_, rfl, ?_, by repeat (first | exact HV.out.trans (HB3.out.mono HV.out.size) | refine below_set ?_ (show w.heap.size ≤ w.heap.size + 2 from by omega))⟩
 have hsz := HB2.out.size
 have hvs := HVS.out
 refine Kd.R_mono (Kd.R_far (p := ⟨w.heap.size + 2, 0, none⟩) (Kd.R_lower (Kd.R_bound HR3.out) (show w.heap.size ≤ w2.heap.size from by omega)) (fun k_ hk => by have h_ := hk.2.1; dsimp only at *; omega) _) (fun _ _ => trivial)
set_option maxHeartbeats 2000000 in
theorem xF1.calls (p : ByteArray → Bool) (g : Nat) (lb : Array Value) (eg : ∀ args w, (callFunc g args).run Tryz.prog w = .ok (.enter g args) w) (A0 : Option Addr) (c0 : Nat) (l0 : List ByteArray) (w : World)
  (hr0 : Kd.C Kd.string w A0 l0.length l0) (hbig : l0.length ≤ 9223372036854775807) (hp : PredBS Tryz.prog g lb Value.string p l0 w) :
  Calls Tryz.prog 35 #[.slice A0 l0.length c0, .func (.func g) #[] lb] w fun e w' => e = .returned (.bool (l0.any p)) ∧ Below w.heap.size w w' := by
 have HC := Aside0.mk (xF3.calls p g lb eg A0 c0 l0 w hr0 hbig hp)
 clear hp hr0
 go_enter Tryz.func35, Tryz.ntmps35
 go_wp2_with (go_at_call 52; refine HC.out.mono ?_; rintro e w' ⟨rfl, hb0⟩; have hb := Aside0.mk hb0; clear hb0)
 go_ret
 exact ⟨by rw [← idxByS_any p l0 0]; rfl, hb.out⟩
def iF16.p (x : ByteArray) : Bool := decide ((x.size : Int) > 12)
def iF16.f (l0 : List ByteArray) : Option Bool := some (l0.any iF16.p)
set_option maxHeartbeats 1000000 in
theorem iF16.lit (l0 : List ByteArray) (w : World) : PredBS Tryz.prog 36 #[] Value.string iF16.p l0 w := by
 intro W x _ _
 show Calls Tryz.prog 36 #[.string x] W _
 go_enter Tryz.func36, Tryz.ntmps36
 go_wp2
 go_ret
 exact ⟨rfl, Below.refl _ _⟩
theorem iF16.calls (A0 : Option Addr) (c0 : Nat) (l0 : List ByteArray) (r : Bool) (w : World) (hr0 : Kd.C Kd.string w A0 l0.length l0) (hc0 : l0.length ≤ c0) (h : iF16.f l0 = some r) :
  Calls Tryz.prog 35 #[.slice A0 l0.length c0, .func (.func 36) #[] #[]] w fun e w' => e = .returned (.bool r) ∧ Below w.heap.size w w' := by
 obtain rfl := Option.some.inj h
 exact xF1.calls iF16.p 36 #[] (Go.Proofs.enters_of Tryz.func36 (by kernel_rfl) rfl) A0 c0 l0 w hr0 hr0.2.1 (iF16.lit l0 w)
def xF36.l0 : Nat → List ByteArray → Int → Option (Bool)
 | 0, _, _ => none
 | k + 1, x0, x3 => if x3 > 0 then (if 0 ≤ x3 then (if x3 < (x0.length : Int) then (if 0 ≤ (wrap64 (x3 - 1)) then (if (wrap64 (x3 - 1)) < (x0.length : Int) then ((xF5.f (rdOf ByteArray.empty x0 x3) (rdOf ByteArray.empty x0 (wrap64 (x3 - 1)))).bind fun t301 => (if t301 = true then (some false) else (xF36.l0 k x0 (wrap64 (x3 - 1))))) else (none)) else (none)) else (none)) else (none)) else (some true)
def xF36.f (k : Nat) (l0 : List ByteArray) : Option (Bool) := xF36.l0 k l0 (wrap64 ((l0.length : Int) - 1))
theorem xF36.mono_l : ∀ k, (∀ y0 y1, LeO (xF36.l0 k y0 y1) (xF36.l0 (k + 1) y0 y1))
 | 0 => fun _ _ r h => by simp [xF36.l0] at h
 | k + 1 => by
  have ih0 := xF36.mono_l k
  intro y0 y1
  unfold xF36.l0
  repeat' with_reducible first | exact ih0 _ _ | exact LeO.refl _ | exact LeO.none _ | refine LeO.ite ?_ ?_ | refine LeO.bind ?_ (fun _ => ?_)
theorem xF36.mono : ∀ a0 k, LeO (xF36.f k a0) (xF36.f (k + 1) a0) := by
 intro a0 k
 have ih0 := xF36.mono_l k
 unfold xF36.f
 repeat' with_reducible first | exact ih0 _ _ | exact LeO.refl _ | exact LeO.none _ | refine LeO.ite ?_ ?_ | refine LeO.bind ?_ (fun _ => ?_)
theorem xF36.calls (k : Nat) (A0 : Option Addr) (c0 : Nat) (l0 : List ByteArray) (r : Bool) (w : World) (hr0 : Kd.C Kd.string w A0 l0.length l0) (hc0 : l0.length ≤ c0) (h : xF36.f k l0 = some r) :
  Calls Tryz.prog 37 #[.slice A0 l0.length c0] w fun e w' => e = .returned (.bool r) ∧ Drawn0 w w' := by
 have HR0 := Aside0.mk hr0
 have HC0 := Aside0.mk hc0
 clear hr0 hc0
 have H : (xF36.l0 k l0 (wrap64 ((l0.length : Int) - 1))) = some r := h
 clear h
 have H' := Aside0.mk H
 clear H
 go_enter Tryz.func37, Tryz.ntmps37
 go_wp2
 repeat (go_quiet (fail); try go_wp2)
 go_loopg [3] k (fun kq v3 w' => ∃ (x3_1 : Int), v3 = .int .i64 x3_1 ∧ Aside0 (xF36.l0 kq l0 x3_1 = some r) ∧ Aside0 (kq ≤ k) ∧ Drawn0 w w')
 case atStart => exact ⟨(wrap64 ((l0.length : Int) - 1)), (by first | rfl | (simp; done) | (simp [*]; done)), H', ⟨Nat.le_refl _⟩, by repeat (first | exact Drawn0.refl _ | apply Drawn0.step)⟩
 clear H'
 obtain ⟨x3_1, rfl, HA, HK1, ⟨m1, rfl⟩⟩ := hrel
 cases gk with
 | zero => exact absurd HA.out (by simp [xF36.l0])
 | succ k1 =>
  have H := HA.out
  clear HA
  simp only [xF36.l0] at H
  by_cases c2 : x3_1 > 0
  rotate_left
  ·
   rw [if_neg c2] at H
   have c2b0 : decide (0 < x3_1) = false := dF_ c2
   clear c2
   obtain rfl := Option.some.inj H
   go_wp2
   repeat (go_quiet (fail); try go_wp2)
   go_ret
   exact ⟨by first | rfl | (simp; done) | (simp [*]; done), by repeat (first | exact Drawn0.refl _ | apply Drawn0.step)⟩
  rw [if_pos c2] at H
  have c2b0 : decide (0 < x3_1) = true := dT_ c2
  clear c2
  by_cases c3 : 0 ≤ x3_1
  rotate_left
  ·
   rw [if_neg c3] at H
   exact absurd H (by simp)
  rw [if_pos c3] at H
  have c3b0 : decide (0 ≤ x3_1) = true := dT_ c3
  clear c3
  by_cases c4 : x3_1 < (l0.length : Int)
  rotate_left
  ·
   rw [if_neg c4] at H
   exact absurd H (by simp)
  rw [if_pos c4] at H
  have c4b0 : decide (x3_1 < (l0.length : Int)) = true := dT_ c4
  clear c4
  obtain ⟨ji5, hji5⟩ : ∃ j_ : Int, (wrap64 (x3_1 - 1)) = j_ := ⟨_, rfl⟩
  replace H : (if 0 ≤ (ji5) then (if (ji5) < (l0.length : Int) then ((xF5.f (rdOf ByteArray.empty l0 x3_1) (rdOf ByteArray.empty l0 (ji5))).bind fun t301 => (if t301 = true then (some false) else (xF36.l0 k1 l0 ji5))) else (none)) else (none)) = some r := by first | (rw [hji5] at H; exact H) | (simp only [hji5] at H ⊢; exact H)
  have hji5w : (IntKind.i64.wrap (x3_1 - 1)) = ji5 := (i64_w _).trans hji5
  by_cases c6 : 0 ≤ (ji5)
  rotate_left
  ·
   rw [if_neg c6] at H
   exact absurd H (by simp)
  rw [if_pos c6] at H
  have c6b0 : decide (0 ≤ (ji5)) = true := dT_ c6
  clear c6
  by_cases c7 : (ji5) < (l0.length : Int)
  rotate_left
  ·
   rw [if_neg c7] at H
   exact absurd H (by simp)
  rw [if_pos c7] at H
  have c7b0 : decide ((ji5) < (l0.length : Int)) = true := dT_ c7
  clear c7
  replace H := Option.bind_eq_some_iff.mp H
  obtain ⟨t301, A80, H⟩ := H
  replace H : (if t301 = true then (some false) else (xF36.l0 k1 l0 ji5)) = some r := H
  have A8 := Aside0.mk A80
  clear A80
  by_cases c9 : t301 = true
  ·
   subst c9
   replace H : (some false) = some r := by rw [if_pos rfl] at H; exact H
   obtain rfl := Option.some.inj H
   have p299 : 0 ≤ (x3_1 : Int) := oD_ (by first | (with_reducible assumption) | assumption)
   have q299 : x3_1 < (l0.length : Int) := oD_ (by first | (with_reducible assumption) | assumption)
   obtain ⟨ad299, e299, hx299_0⟩ := Kd.at_string HR0.out x3_1 p299 q299
   cases e299
   replace p299 := eq_true p299
   replace q299 := eq_true q299
   have p300 : 0 ≤ ((ji5) : Int) := oD_ (by first | (with_reducible assumption) | assumption)
   have q300 : (ji5) < (l0.length : Int) := oD_ (by first | (with_reducible assumption) | assumption)
   obtain ⟨ad300, e300, hx300_0⟩ := Kd.at_string HR0.out (ji5) p300 q300
   obtain rfl : ad299 = ad300 := (by injection e300)
   replace p300 := eq_true p300
   replace q300 := eq_true q300
   go_wp2_with (first | (go_at_call 53; (with_reducible refine (xF5.calls (rdOf ByteArray.empty l0 x3_1) (rdOf ByteArray.empty l0 (ji5)) true _ A8.out).mono ?_); rintro e w' ⟨rfl, ⟨nd, rfl⟩⟩; (try first | exact ⟨rfl, _, World.drewN_drewN _ _ _⟩ | exact ⟨rfl, _, Eq.trans (World.drewN_drewN _ _ _) (congrArg (World.drewN _) (Nat.add_assoc _ _ _))⟩)))
   repeat (go_quiet (first | (go_at_call 53; (with_reducible refine (xF5.calls (rdOf ByteArray.empty l0 x3_1) (rdOf ByteArray.empty l0 (ji5)) true _ A8.out).mono ?_); rintro e w' ⟨rfl, ⟨nd, rfl⟩⟩; (try first | exact ⟨rfl, _, World.drewN_drewN _ _ _⟩ | exact ⟨rfl, _, Eq.trans (World.drewN_drewN _ _ _) (congrArg (World.drewN _) (Nat.add_assoc _ _ _))⟩))); try go_wp2_with (first | (go_at_call 53; (with_reducible refine (xF5.calls (rdOf ByteArray.empty l0 x3_1) (rdOf ByteArray.empty l0 (ji5)) true _ A8.out).mono ?_); rintro e w' ⟨rfl, ⟨nd, rfl⟩⟩; (try first | exact ⟨rfl, _, World.drewN_drewN _ _ _⟩ | exact ⟨rfl, _, Eq.trans (World.drewN_drewN _ _ _) (congrArg (World.drewN _) (Nat.add_assoc _ _ _))⟩))))
   go_ret
   exact ⟨by first | rfl | (simp; done) | (simp only [← hji5] <;> (first | rfl | simp)) | (simp [*]; done), by repeat (first | exact Drawn0.refl _ | apply Drawn0.step)⟩
  replace c9 := Bool.eq_false_iff.mpr c9
  subst c9
  replace H : (xF36.l0 k1 l0 ji5) = some r := by rw [if_neg (show ¬ (false = true) by decide)] at H; exact H
  have H' := Aside0.mk H
  clear H
  have p299 : 0 ≤ (x3_1 : Int) := oD_ (by first | (with_reducible assumption) | assumption)
  have q299 : x3_1 < (l0.length : Int) := oD_ (by first | (with_reducible assumption) | assumption)
  obtain ⟨ad299, e299, hx299_0⟩ := Kd.at_string HR0.out x3_1 p299 q299
  cases e299
  replace p299 := eq_true p299
  replace q299 := eq_true q299
  have p300 : 0 ≤ ((ji5) : Int) := oD_ (by first | (with_reducible assumption) | assumption)
  have q300 : (ji5) < (l0.length : Int) := oD_ (by first | (with_reducible assumption) | assumption)
  obtain ⟨ad300, e300, hx300_0⟩ := Kd.at_string HR0.out (ji5) p300 q300
  obtain rfl : ad299 = ad300 := (by injection e300)
  replace p300 := eq_true p300
  replace q300 := eq_true q300
  go_wp2_with (first | (go_at_call 53; (with_reducible refine (xF5.calls (rdOf ByteArray.empty l0 x3_1) (rdOf ByteArray.empty l0 (ji5)) false _ A8.out).mono ?_); rintro e w' ⟨rfl, ⟨nd, rfl⟩⟩; (try first | exact ⟨rfl, _, World.drewN_drewN _ _ _⟩ | exact ⟨rfl, _, Eq.trans (World.drewN_drewN _ _ _) (congrArg (World.drewN _) (Nat.add_assoc _ _ _))⟩)))
  repeat (go_quiet (first | (go_at_call 53; (with_reducible refine (xF5.calls (rdOf ByteArray.empty l0 x3_1) (rdOf ByteArray.empty l0 (ji5)) false _ A8.out).mono ?_); rintro e w' ⟨rfl, ⟨nd, rfl⟩⟩; (try first | exact ⟨rfl, _, World.drewN_drewN _ _ _⟩ | exact ⟨rfl, _, Eq.trans (World.drewN_drewN _ _ _) (congrArg (World.drewN _) (Nat.add_assoc _ _ _))⟩))); try go_wp2_with (first | (go_at_call 53; (with_reducible refine (xF5.calls (rdOf ByteArray.empty l0 x3_1) (rdOf ByteArray.empty l0 (ji5)) false _ A8.out).mono ?_); rintro e w' ⟨rfl, ⟨nd, rfl⟩⟩; (try first | exact ⟨rfl, _, World.drewN_drewN _ _ _⟩ | exact ⟨rfl, _, Eq.trans (World.drewN_drewN _ _ _) (congrArg (World.drewN _) (Nat.add_assoc _ _ _))⟩))))
  go_roundg k1
  case measure => have := HK1.out; omega
  case rel => exact ⟨(ji5), (by first | rfl | (simp; done) | (simp only [← hji5] <;> (first | rfl | simp)) | (simp [*]; done)), H', ⟨by have := HK1.out; omega⟩, by repeat (first | exact Drawn0.refl _ | apply Drawn0.step)⟩
end Go.Proofs.YtjpepfdpihojfaaGreatDoor.P
namespace Go.Proofs.YtjpepfdpihojfaaGreatDoor.P
open Go.RowKit Go.Proofs.YtjpepfdpihojfaaGreatDoorW.PrintWords Go.Proofs.YtjpepfdpihojfaaGreatDoorW.PrintLast Go.Proofs.YtjpepfdpihojfaaGreatDoorW.PrintMore
attribute [local go_sem] max2_int min2_int max_two min_two max_three min_three max_four min_four
attribute [local go_sem high] eqA53
def iF8.l0 : Nat → List (S53) → List (S53) → Int → Int → Option (Bool)
 | 0, _, _, _, _ => none
 | k + 1, x0, x1, x12, x13 => if x13 < x12 then (if 0 ≤ x13 then (if x13 < (x0.length : Int) then (if x13 < (x1.length : Int) then (if (!(((rd_T53 x0 x13).f0) == ((rd_T53 x1 x13).f0)) || (!(((rd_T53 x0 x13).f1) == ((rd_T53 x1 x13).f1)) || (!(((rd_T53 x0 x13).f2) == ((rd_T53 x1 x13).f2))))) = true then (some false) else (iF8.l0 k x0 x1 x12 (wrap64 (x13 + 1)))) else (none)) else (none)) else (none)) else (some true)
def iF8.f (k : Nat) (l0 : List (S53)) (l1 : List (S53)) : Option (Bool) := if (l0.length : Int) = (l1.length : Int) then (iF8.l0 k l0 l1 (l0.length : Int) 0) else (some false)
theorem iF8.mono_l : ∀ k, (∀ y0 y1 y2 y3, LeO (iF8.l0 k y0 y1 y2 y3) (iF8.l0 (k + 1) y0 y1 y2 y3))
 | 0 => fun _ _ _ _ r h => by simp [iF8.l0] at h
 | k + 1 => by
  have ih0 := iF8.mono_l k
  intro y0 y1 y2 y3
  unfold iF8.l0
  repeat' with_reducible first | exact ih0 _ _ _ _ | exact LeO.refl _ | exact LeO.none _ | refine LeO.ite ?_ ?_ | refine LeO.bind ?_ (fun _ => ?_)
theorem iF8.mono : ∀ a0 a1 k, LeO (iF8.f k a0 a1) (iF8.f (k + 1) a0 a1) := by
 intro a0 a1 k
 have ih0 := iF8.mono_l k
 unfold iF8.f
 repeat' with_reducible first | exact ih0 _ _ _ _ | exact LeO.refl _ | exact LeO.none _ | refine LeO.ite ?_ ?_ | refine LeO.bind ?_ (fun _ => ?_)
theorem iF8.calls (k : Nat) (A0 : Option Addr) (c0 : Nat) (l0 : List (S53)) (A1 : Option Addr) (c1 : Nat) (l1 : List (S53)) (r : Bool) (w : World) (hr0 : Kd.C k53 w A0 l0.length l0) (hc0 : l0.length ≤ c0) (hr1 : Kd.C k53 w A1 l1.length l1) (hc1 : l1.length ≤ c1) (h : iF8.f k l0 l1 = some r) :
  Calls Tryz.prog 38 #[.slice A0 l0.length c0, .slice A1 l1.length c1] w fun e w' => e = .returned (.bool r) ∧ Drawn0 w w' := by
 have hu53 := Tryz.underlying53
 have HR0 := Aside0.mk hr0
 have HC0 := Aside0.mk hc0
 clear hr0 hc0
 have HR1 := Aside0.mk hr1
 have HC1 := Aside0.mk hc1
 clear hr1 hc1
 have H : (if (l0.length : Int) = (l1.length : Int) then (iF8.l0 k l0 l1 (l0.length : Int) 0) else (some false)) = some r := h
 clear h
 by_cases c3 : (l0.length : Int) = (l1.length : Int)
 rotate_left
 ·
  rw [if_neg c3] at H
  have c3b0 : ((l0.length : Int) == (l1.length : Int)) = false := beq_eq_false_iff_ne.mpr c3
  have c3b1 : ((l0.length : Int) != (l1.length : Int)) = true := bne_iff_ne.mpr c3
  have c3b2 : (l0.length == l1.length) = false := by first | simpa using c3 | (simp at c3 ⊢; omega)
  obtain rfl := Option.some.inj H
  go_enter Tryz.func38, Tryz.ntmps38
  go_wp2
  repeat (go_quiet (fail); try go_wp2)
  go_ret
  exact ⟨by first | rfl | (simp; done) | (simp [*]; done), by repeat (first | exact Drawn0.refl _ | apply Drawn0.step)⟩
 rw [if_pos c3] at H
 have c3b0 : ((l0.length : Int) == (l1.length : Int)) = true := beq_iff_eq.mpr c3
 have c3b1 : ((l0.length : Int) != (l1.length : Int)) = false := bne_eq_false_iff_eq.mpr c3
 have c3b2 : (l0.length == l1.length) = true := by first | simpa using c3 | (simp at c3 ⊢; omega)
 clear c3
 have H' := Aside0.mk H
 clear H
 go_enter Tryz.func38, Tryz.ntmps38
 go_wp2
 repeat (go_quiet (fail); try go_wp2)
 go_loopg [13] k (fun kq v13 w' => ∃ (x13_1 : Int), v13 = .int .i64 x13_1 ∧ Aside0 (iF8.l0 kq l0 l1 (l0.length : Int) x13_1 = some r) ∧ Aside0 (kq ≤ k) ∧ Drawn0 w w')
 case atStart => exact ⟨(0), (by first | rfl | (simp; done) | (simp [*]; done)), H', ⟨Nat.le_refl _⟩, by repeat (first | exact Drawn0.refl _ | apply Drawn0.step)⟩
 clear H'
 try clear c1
 try clear p2
 try clear c3
 try clear c3b0
 try clear c3b1
 try clear c3b2
 obtain ⟨x13_1, rfl, HA, HK1, ⟨m1, rfl⟩⟩ := hrel
 cases gk with
 | zero => exact absurd HA.out (by simp [iF8.l0])
 | succ k1 =>
  have H := HA.out
  clear HA
  simp only [iF8.l0] at H
  by_cases c4 : x13_1 < (l0.length : Int)
  rotate_left
  ·
   rw [if_neg c4] at H
   have c4b0 : decide (x13_1 < (l0.length : Int)) = false := dF_ c4
   clear c4
   obtain rfl := Option.some.inj H
   go_wp2
   repeat (go_quiet (fail); try go_wp2)
   go_ret
   exact ⟨by first | rfl | (simp; done) | (simp [*]; done), by repeat (first | exact Drawn0.refl _ | apply Drawn0.step)⟩
  rw [if_pos c4] at H
  have c4b0 : decide (x13_1 < (l0.length : Int)) = true := dT_ c4
  clear c4
  by_cases c5 : 0 ≤ x13_1
  rotate_left
  ·
   rw [if_neg c5] at H
   exact absurd H (by simp)
  rw [if_pos c5] at H
  have c5b0 : decide (0 ≤ x13_1) = true := dT_ c5
  clear c5
  by_cases c6 : x13_1 < (l0.length : Int)
  rotate_left
  ·
   rw [if_neg c6] at H
   exact absurd H (by simp)
  rw [if_pos c6] at H
  have c6b0 : decide (x13_1 < (l0.length : Int)) = true := dT_ c6
  clear c6
  by_cases c7 : x13_1 < (l1.length : Int)
  rotate_left
  ·
   rw [if_neg c7] at H
   exact absurd H (by simp)
  rw [if_pos c7] at H
  have c7b0 : decide (x13_1 < (l1.length : Int)) = true := dT_ c7
  clear c7
  by_cases c8 : (!(((rd_T53 l0 x13_1).f0) == ((rd_T53 l1 x13_1).f0)) || (!(((rd_T53 l0 x13_1).f1) == ((rd_T53 l1 x13_1).f1)) || (!(((rd_T53 l0 x13_1).f2) == ((rd_T53 l1 x13_1).f2))))) = true
  ·
   rw [if_pos c8] at H
   have c8b0 : (!(((rd_T53 l0 x13_1).f0) == ((rd_T53 l1 x13_1).f0)) || (!(((rd_T53 l0 x13_1).f1) == ((rd_T53 l1 x13_1).f1)) || (!(((rd_T53 l0 x13_1).f2) == ((rd_T53 l1 x13_1).f2))))) = true := c8
   clear c8
   obtain rfl := Option.some.inj H
   have p302 : 0 ≤ (x13_1 : Int) := oD_ (by first | (with_reducible assumption) | assumption)
   have q302 : x13_1 < (l0.length : Int) := oD_ (by first | (with_reducible assumption) | assumption)
   obtain ⟨ad302, e302, hx302_0, hx302_1, hx302_2⟩ := at_T53 HR0.out x13_1 p302 q302
   cases e302
   replace p302 := eq_true p302
   replace q302 := eq_true q302
   have p303 : 0 ≤ (x13_1 : Int) := oD_ (by first | (with_reducible assumption) | assumption)
   have q303 : x13_1 < (l1.length : Int) := oD_ (by first | (with_reducible assumption) | assumption)
   obtain ⟨ad303, e303, hx303_0, hx303_1, hx303_2⟩ := at_T53 HR1.out x13_1 p303 q303
   cases e303
   replace p303 := eq_true p303
   replace q303 := eq_true q303
   go_wp2
   repeat (go_quiet (fail); try go_wp2)
   go_ret
   exact ⟨by first | rfl | (simp; done) | (simp [*]; done), by repeat (first | exact Drawn0.refl _ | apply Drawn0.step)⟩
  rw [if_neg c8] at H
  have c8b0 : (!(((rd_T53 l0 x13_1).f0) == ((rd_T53 l1 x13_1).f0)) || (!(((rd_T53 l0 x13_1).f1) == ((rd_T53 l1 x13_1).f1)) || (!(((rd_T53 l0 x13_1).f2) == ((rd_T53 l1 x13_1).f2))))) = false := by simpa using c8
  clear c8
  have H' := Aside0.mk H
  clear H
  have p302 : 0 ≤ (x13_1 : Int) := oD_ (by first | (with_reducible assumption) | assumption)
  have q302 : x13_1 < (l0.length : Int) := oD_ (by first | (with_reducible assumption) | assumption)
  obtain ⟨ad302, e302, hx302_0, hx302_1, hx302_2⟩ := at_T53 HR0.out x13_1 p302 q302
  cases e302
  replace p302 := eq_true p302
  replace q302 := eq_true q302
  have p303 : 0 ≤ (x13_1 : Int) := oD_ (by first | (with_reducible assumption) | assumption)
  have q303 : x13_1 < (l1.length : Int) := oD_ (by first | (with_reducible assumption) | assumption)
  obtain ⟨ad303, e303, hx303_0, hx303_1, hx303_2⟩ := at_T53 HR1.out x13_1 p303 q303
  cases e303
  replace p303 := eq_true p303
  replace q303 := eq_true q303
  go_wp2
  repeat (go_quiet (fail); try go_wp2)
  go_roundg k1
  case measure => have := HK1.out; omega
  case rel => exact ⟨(wrap64 (x13_1 + 1)), (by first | rfl | (simp; done) | (simp [*]; done)), H', ⟨by have := HK1.out; omega⟩, by repeat (first | exact Drawn0.refl _ | apply Drawn0.step)⟩
end Go.Proofs.YtjpepfdpihojfaaGreatDoor.P
namespace Go.Proofs.YtjpepfdpihojfaaGreatDoor.P
open Go.RowKit Go.Proofs.YtjpepfdpihojfaaGreatDoorW.PrintWords Go.Proofs.YtjpepfdpihojfaaGreatDoorW.PrintLast Go.Proofs.YtjpepfdpihojfaaGreatDoorW.PrintMore
attribute [local go_sem] max2_int min2_int max_two min_two max_three min_three max_four min_four
def iF15.j0 : Nat → Bool → List (S53) → Option (Bool)
 | 0, _, _ => none
 | k + 1, x16, x333000 => if x16 = true then (some false) else ((iF10.f k x333000).bind fun t338 => (if (t338.length : Int) ≤ 40 then ((xF36.f k t338).bind fun t341 => (if t341 = true then ((iF19.f k t338).bind fun t342 => ((iF8.f k t342 x333000).bind fun t345 => (some t345))) else (some false))) else (some false)))
def iF15.f (k : Nat) (l0_0 : List (S53)) : Option (Bool) := (iF9.f k l0_0).bind fun bt333 => (if bt333.2 = true then ((iF16.f bt333.1).bind fun t337 => (iF15.j0 k t337 l0_0)) else (iF15.j0 k true l0_0))
theorem iF15.mono_l : ∀ k, (∀ y0 y1, LeO (iF15.j0 k y0 y1) (iF15.j0 (k + 1) y0 y1))
 | 0 => fun _ _ r h => by simp [iF15.j0] at h
 | k + 1 => by
  have ih0 := iF15.mono_l k
  intro y0 y1
  unfold iF15.j0
  repeat' with_reducible first | exact ih0 _ _ | exact iF8.mono _ _ _ | exact iF9.mono _ _ | exact iF10.mono _ _ | exact iF19.mono _ _ | exact xF36.mono _ _ | exact LeO.refl _ | exact LeO.none _ | refine LeO.ite ?_ ?_ | refine LeO.bind ?_ (fun _ => ?_)
theorem iF15.mono : ∀ a0 k, LeO (iF15.f k a0) (iF15.f (k + 1) a0) := by
 intro a0 k
 have ih0 := iF15.mono_l k
 unfold iF15.f
 repeat' with_reducible first | exact ih0 _ _ | exact iF8.mono _ _ _ | exact iF9.mono _ _ | exact iF10.mono _ _ | exact iF19.mono _ _ | exact xF36.mono _ _ | exact LeO.refl _ | exact LeO.none _ | refine LeO.ite ?_ ?_ | refine LeO.bind ?_ (fun _ => ?_)
def iF15.T5 : Bool × List (List Nat × List Nat) := (true, [([], []), ([0], [0]), ([1], [1]), ([2], [2]), ([3], [3]), ([4, 3, 3], [3, 4]), ([3, 5], [3, 5]), ([6, 5], [6]), ([7], [7]), ([8, 7, 7], [7, 8]), ([9, 7], [7, 9]), ([7], [7]), ([11, 7], [7, 11]), ([10, 12, 9, 7], [7, 10, 12]), ([7, 13], [7, 13]), ([14, 13, 0, 1, 2, 3, 4, 5, 6, 7, 8, 9, 10, 11, 12, 13, 14], [14])])
def iF15.B5 : List Nat := [0, 1, 3, 7, 15, 31, 63, 127, 255, 511, 1023, 255, 2303, 8191, 16383, 32767]
theorem iF15.tab5 : rtab .any (opsOf Tryz.f19 5) = iF15.T5 := by kernel_rfl
theorem iF15.bits5 : waitsOk iF15.T5.2 iF15.B5 = true := by kernel_rfl
theorem iF15.calls (k : Nat) (A0_0 : Option Addr) (c0_0 : Nat) (l0_0 : List (S53)) (r : Bool) (w : World) (hr0_0 : Kd.C k53 w A0_0 l0_0.length l0_0) (hc0_0 : l0_0.length ≤ c0_0) (h : iF15.f k l0_0 = some r) :
  Calls Tryz.prog 19 #[.agg #[.slice A0_0 l0_0.length c0_0]] w fun e w' => e = .returned (.bool r) ∧ Below w.heap.size w w' := by
 have hu31 := Tryz.underlying31
 have hfd : ∀ (a_ : Option Addr) (n_ c_ : Nat) (W_ : World), (Instr.field 31 (.agg #[.slice a_ n_ c_]) 0).run Tryz.prog W_ = .ok (.slice a_ n_ c_) W_ := fun a_ n_ c_ W_ => by first | rfl | kernel_rfl
 have HR0_0 := Aside0.mk hr0_0
 have HC0_0 := Aside0.mk hc0_0
 clear hr0_0 hc0_0
 have HB := Aside0.mk (Below.refl w.heap.size w)
 have H : ((iF9.f k l0_0).bind fun bt333 => (if bt333.2 = true then ((iF16.f bt333.1).bind fun t337 => (iF15.j0 k t337 l0_0)) else (iF15.j0 k true l0_0))) = some r := h
 clear h
 replace H := Option.bind_eq_some_iff.mp H
 obtain ⟨⟨t333, t336⟩, A20, H⟩ := H
 replace H : (if t336 = true then ((iF16.f t333).bind fun t337 => (iF15.j0 k t337 l0_0)) else (iF15.j0 k true l0_0)) = some r := H
 have A2 := Aside0.mk A20
 clear A20
 have HC3 := Aside0.mk H
 clear H
 go_enter Tryz.func19, Tryz.ntmps19
 go_upto_region 2 with (first | ((with_reducible refine gate_dst (N := 1) rfl ?_); refine box_event ?hg (N := 1) ?hd (cs := #[.slice A0_0 l0_0.length c0_0]) (t := 31) ?hr ?_; (case hd => rfl); (case hg => rfl); (case hr => first | (go_simp; done) | (go_simp; rfl)); intro gb332 hg w4 hbox hb; have n0_ := Aside0.mk (below_step (by repeat (first | (with_reducible first | exact HB.out | apply below_alloc | apply pw_below_drewN | apply below_drew1) | exact HB.out)) hb); have n1_ := Aside0.mk (hbox); have n2_ := Aside0.mk ((by rw [hg]; exact (below_size (by repeat (first | (with_reducible first | exact HB.out | apply below_alloc | apply pw_below_drewN | apply below_drew1) | exact HB.out))) : w.heap.size ≤ gb332)); have n3_ := Aside0.mk ((by rw [hg]; exact (below_size (by repeat (first | (with_reducible first | exact HB.out | apply below_alloc | apply pw_below_drewN | apply below_drew1) | exact HB.out))) : w.heap.size ≤ gb332)); clear HB; have HB := n0_; have BK332 := n1_; have GW332 := n2_; have GW332 := n3_; clear n0_ n1_ n2_ n3_; clear hb hbox hg; have hcz5_0 : w4.cell? ⟨gb332, 0, none⟩ = some (.slice A0_0 l0_0.length c0_0) := (blk_cell BK332.out 0).trans rfl; have hfz5_0 := blk_frozen BK332.out 0) | ((with_reducible refine gate_callee (f := 34) rfl ?_); refine goesL_ (some 8) rfl rfl Tryz.func34 (by kernel_rfl) rfl #[.agg #[.slice A0_0 l0_0.length c0_0]] rfl (by (try simp only [List.map_toArray, List.map_cons, List.map_nil]); first | done | rfl | (simp only [List.length_drop, List.length_take]; rfl)) ?_; (with_reducible refine (iF9.calls k _ _ l0_0 t333 t336 _ ?side1 HC0_0.out A2.out).mono ?_); (case side1 => repeat (first | exact (Kd.C_below HR0_0.out HB.out) | with_reducible first | apply cA_ | apply cN_ | apply cD_)); rintro e w6 ⟨v334, rfl, ho0, hb⟩; refine ⟨_, rfl, ?_⟩; have n0_ := Aside0.mk (Kd.R_lower ho0 (below_size (by repeat (first | (with_reducible first | exact HB.out | apply below_alloc | apply pw_below_drewN | apply below_drew1 | refine below_set ?_ GW332.out) | exact HB.out)))); have n1_ := Aside0.mk (blk_below (g := gb332) (o := .cells #[.slice A0_0 l0_0.length c0_0] 31 (0, 0)) (by (with_reducible repeat (first | refine blk_drewN ?_ _ | refine blk_drew ?_ | refine blk_alloc ?_ _)); exact BK332.out) hb); have n2_ := Aside0.mk (below_step (by repeat (first | (with_reducible first | exact HB.out | apply below_alloc | apply pw_below_drewN | apply below_drew1 | refine below_set ?_ GW332.out) | exact HB.out)) hb); clear BK332; clear HB; have HO335 := n0_; have BK332 := n1_; have HB := n2_; clear n0_ n1_ n2_; (try clear hb); (try clear hb2); (try clear hk); (try clear hi); (try clear ho0)))
 (try simp only [Act.put, List.setIfInBounds_toArray, List.set_cons_zero, List.set_cons_succ])
 go_cut [16] (fun v16 wc => ∃ (kq : Nat) (x16_2 : Bool), v16 = .bool x16_2 ∧ Aside0 (iF15.j0 kq x16_2 l0_0 = some r) ∧ Aside0 (kq ≤ k) ∧ Aside0 (wc.heap[gb332]? = some (.cells #[(.slice A0_0 l0_0.length c0_0)] 31 (0, 0))) ∧ Aside0 (Below w.heap.size w wc))
 case first =>
  have H := HC3.out
  clear HC3
  by_cases c7 : t336 = true
  ·
   subst c7
   replace H : ((iF16.f t333).bind fun t337 => (iF15.j0 k t337 l0_0)) = some r := by rw [if_pos rfl] at H; exact H
   replace H := Option.bind_eq_some_iff.mp H
   obtain ⟨t337, A80, H⟩ := H
   replace H : (iF15.j0 k t337 l0_0) = some r := H
   have A8 := Aside0.mk A80
   clear A80
   have H' := Aside0.mk H
   clear H
   obtain ⟨Ao9, co9, eo9⟩ := Kd.R_slice HO335.out
   subst eo9
   go_wp2_with (first | (go_at_call 35; (with_reducible refine (iF16.calls _ _ t333 t337 _ ?side1 ?side2 A8.out).mono ?_); (case side1 => repeat (first | exact (Kd.R_reads' HO335.out).2.2 | with_reducible first | apply cA_ | apply cN_ | apply cD_)); (case side2 => exact (Kd.R_reads' HO335.out).2.1); rintro e w10 ⟨rfl, hb⟩; have n0_ := Aside0.mk (Kd.R_below (by (with_reducible repeat (first | apply Kd.R_alloc | apply Kd.R_drewN | apply Kd.R_drew)); exact HO335.out) hb); have n1_ := Aside0.mk (blk_below (g := gb332) (o := .cells #[.slice A0_0 l0_0.length c0_0] 31 (0, 0)) (by (with_reducible repeat (first | refine blk_drewN ?_ _ | refine blk_drew ?_ | refine blk_alloc ?_ _)); exact BK332.out) hb); have n2_ := Aside0.mk (below_step (by repeat (first | (with_reducible first | exact HB.out | apply below_alloc | apply pw_below_drewN | apply below_drew1 | refine below_set ?_ GW332.out) | exact HB.out)) hb); clear HO335; clear BK332; clear HB; have HO335 := n0_; have BK332 := n1_; have HB := n2_; clear n0_ n1_ n2_; (try clear hb); (try clear hb2); (try clear hk); (try clear hi)))
   go_meet
   case rel => exact ⟨_, (t337), (by first | rfl | (simp; done) | (simp [*]; done)), H', ⟨by first | omega | exact Nat.le_refl _⟩, ⟨by (with_reducible repeat (first | refine blk_drewN ?_ _ | refine blk_drew ?_ | refine blk_alloc ?_ _)); exact BK332.out⟩, ⟨by repeat (first | (with_reducible first | exact HB.out | apply below_alloc | apply pw_below_drewN | apply below_drew1 | refine below_set ?_ GW332.out) | exact HB.out)⟩⟩
  replace c7 := Bool.eq_false_iff.mpr c7
  subst c7
  replace H : (iF15.j0 k true l0_0) = some r := by rw [if_neg (show ¬ (false = true) by decide)] at H; exact H
  have H' := Aside0.mk H
  clear H
  go_wp2
  go_meet
  case rel => exact ⟨_, (true), (by first | rfl | (simp; done) | (simp [*]; done)), H', ⟨by first | omega | exact Nat.le_refl _⟩, ⟨by (with_reducible repeat (first | refine blk_drewN ?_ _ | refine blk_drew ?_ | refine blk_alloc ?_ _)); exact BK332.out⟩, ⟨by repeat (first | (with_reducible first | exact HB.out | apply below_alloc | apply pw_below_drewN | apply below_drew1 | refine below_set ?_ GW332.out) | exact HB.out)⟩⟩
 clear HC3
 try clear c1
 try clear p2
 try clear c3
 try clear c7
 try clear hcz5_0
 try clear hfz5_0
 obtain ⟨kq, x16_2, rfl, HA, HJ2, BK332, HB⟩ := hcut
 cases kq with
 | zero => exact absurd HA.out (by simp [iF15.j0])
 | succ kj2 =>
  have H := HA.out
  clear HA
  simp only [iF15.j0] at H
  by_cases c11 : x16_2 = true
  ·
   subst c11
   replace H : (some false) = some r := by rw [if_pos rfl] at H; exact H
   obtain rfl := Option.some.inj H
   go_wp2
   go_ret
   exact ⟨by first | rfl | (simp [errW_none, errW_some] <;> rfl) | (simp [*, errW_none, errW_some] <;> rfl), by repeat (first | (with_reducible first | exact HB.out | apply below_alloc | apply pw_below_drewN | apply below_drew1 | refine below_set ?_ GW332.out) | exact HB.out)⟩
  replace c11 := Bool.eq_false_iff.mpr c11
  subst c11
  replace H : ((iF10.f kj2 l0_0).bind fun t338 => (if (t338.length : Int) ≤ 40 then ((xF36.f kj2 t338).bind fun t341 => (if t341 = true then ((iF19.f kj2 t338).bind fun t342 => ((iF8.f kj2 t342 l0_0).bind fun t345 => (some t345))) else (some false))) else (some false))) = some r := by rw [if_neg (show ¬ (false = true) by decide)] at H; exact H
  replace H := Option.bind_eq_some_iff.mp H
  obtain ⟨t338, A120, H⟩ := H
  replace H : (if (t338.length : Int) ≤ 40 then ((xF36.f kj2 t338).bind fun t341 => (if t341 = true then ((iF19.f kj2 t338).bind fun t342 => ((iF8.f kj2 t342 l0_0).bind fun t345 => (some t345))) else (some false))) else (some false)) = some r := H
  have A12 := Aside0.mk A120
  clear A120
  by_cases c13 : (t338.length : Int) ≤ 40
  rotate_left
  ·
   rw [if_neg c13] at H
   have c13b0 : decide ((t338.length : Int) ≤ 40) = false := dF_ c13
   have c13b1 : decide (t338.length ≤ 40) = false := dF_ (by omega)
   clear c13
   obtain rfl := Option.some.inj H
   have hcz28_0 : wc.cell? ⟨gb332, 0, none⟩ = some (.slice A0_0 l0_0.length c0_0) := (blk_cell BK332.out 0).trans rfl
   have hfz28_0 := blk_frozen BK332.out 0
   try go_wp2_with (first | ((with_reducible refine gate_callee (f := 24) rfl ?_); refine goesL_ (some 18) rfl rfl Tryz.func24 (by kernel_rfl) rfl #[.agg #[.slice A0_0 l0_0.length c0_0]] rfl (by (try simp only [List.map_toArray, List.map_cons, List.map_nil]); first | done | rfl | (simp only [List.length_drop, List.length_take]; rfl)) ?_; (with_reducible refine (iF10.calls kj2 _ _ l0_0 t338 _ ?side1 HC0_0.out A12.out).mono ?_); (case side1 => repeat (first | exact (Kd.C_below HR0_0.out HB.out) | with_reducible first | apply cA_ | apply cN_ | apply cD_)); rintro e w29 ⟨v339, rfl, ho0, hb⟩; refine ⟨_, rfl, ?_⟩; have n0_ := Aside0.mk (Kd.R_lower ho0 (below_size (by repeat (first | (with_reducible first | exact HB.out | apply below_alloc | apply pw_below_drewN | apply below_drew1 | refine below_set ?_ GW332.out) | exact HB.out)))); have n1_ := Aside0.mk (blk_below (g := gb332) (o := .cells #[.slice A0_0 l0_0.length c0_0] 31 (0, 0)) (by (with_reducible repeat (first | refine blk_drewN ?_ _ | refine blk_drew ?_ | refine blk_alloc ?_ _)); exact BK332.out) hb); have n2_ := Aside0.mk (below_step (by repeat (first | (with_reducible first | exact HB.out | apply below_alloc | apply pw_below_drewN | apply below_drew1 | refine below_set ?_ GW332.out) | exact HB.out)) hb); clear BK332; clear HB; have HO340 := n0_; have BK332 := n1_; have HB := n2_; clear n0_ n1_ n2_; (try clear hb); (try clear hb2); (try clear hk); (try clear hi); (try clear ho0)))
   have n0_ := Aside0.mk (Kd.R_drew HO340.out)
   have n1_ := Aside0.mk (blk_drew BK332.out)
   have n2_ := Aside0.mk (below_drew1 HB.out)
   clear HO340
   clear BK332
   clear HB
   have HO340 := n0_
   have BK332 := n1_
   have HB := n2_
   clear n0_ n1_ n2_
   obtain ⟨Ao31, co31, eo31⟩ := Kd.R_slice HO340.out
   (first | subst eo31 | (injection eo31 with f1_ f2_ f3_; have f4_ := f1_.symm; have f5_ := f3_.symm; clear f1_ f2_ f3_; subst f4_; subst f5_))
   refine start_ (n := 16) (S := fun w' => True) (ds := []) #[false, false, false, false, false, false, false, false, false, false, false, false, false, false, false, false] (by kernel_rfl) rfl rfl trivial (fun hHeld => ?_); refine with_tabW iF15.tab5 iF15.bits5 (fun HT_ HW_ => ?_)
   generalize w29.drew = w30 at HO340 BK332 HB hHeld ⊢
   refine pure_ (i := 0) (N := some 19) (v := ?_) (a' := ?_) #[true, false, false, false, false, false, false, false, false, false, false, false, false, false, false, false] rfl rfl (any_of HT_.out (by kernel_rfl)) (fun _ _ _ h => h) (Or.inl ⟨by rfl, ?_⟩) ?_ ?_
   rotate_left
   ·
    intro w'
    go_simp
    with_reducible rfl
   rotate_left
   ·
    simp only [Act.put, List.setIfInBounds_toArray, List.set_cons_zero, List.set_cons_succ, i64_w, i32_w]
    rfl
   refine pure_ (i := 1) (N := some 20) (v := ?_) (a' := ?_) #[true, true, false, false, false, false, false, false, false, false, false, false, false, false, false, false] rfl rfl (any_of HT_.out (by kernel_rfl)) (fun _ _ _ h => h) (Or.inl ⟨by rfl, ?_⟩) ?_ ?_
   rotate_left
   ·
    intro w'
    go_simp
    with_reducible rfl
   rotate_left
   ·
    simp only [Act.put, List.setIfInBounds_toArray, List.set_cons_zero, List.set_cons_succ, i64_w, i32_w]
    rfl
   refine pure_ (i := 2) (N := some 21) (v := ?_) (a' := ?_) #[true, true, true, false, false, false, false, false, false, false, false, false, false, false, false, false] rfl rfl (any_of HT_.out (by kernel_rfl)) (fun _ _ _ h => h) (Or.inl ⟨by rfl, ?_⟩) ?_ ?_
   rotate_left
   ·
    intro w'
    go_simp
    with_reducible rfl
   rotate_left
   ·
    simp only [Act.put, List.setIfInBounds_toArray, List.set_cons_zero, List.set_cons_succ, i64_w, i32_w]
    rfl
   refine pure_ (i := 3) (N := some 22) (v := ?_) (a' := ?_) #[true, true, true, true, false, false, false, false, false, false, false, false, false, false, false, false] rfl rfl (any_of HT_.out (by kernel_rfl)) (fun _ _ _ h => h) (Or.inl ⟨by rfl, ?_⟩) ?_ ?_
   rotate_left
   ·
    intro w'
    go_simp
    with_reducible rfl
   rotate_left
   ·
    simp only [Act.put, List.setIfInBounds_toArray, List.set_cons_zero, List.set_cons_succ, i64_w, i32_w]
    rfl
   refine pure_ (i := 4) (N := some 23) (v := undef) (a' := ?_) #[true, true, true, true, true, false, false, false, false, false, false, false, false, false, false, false] rfl rfl (any_of HT_.out (by kernel_rfl)) (fun _ _ _ h => h) (Or.inr ⟨by rfl, rfl⟩) ?_ ?_
   rotate_left
   ·
    simp only [Act.put, List.setIfInBounds_toArray, List.set_cons_zero, List.set_cons_succ, i64_w, i32_w]
    rfl
   refine pure_ (i := 5) (N := some 24) (v := undef) (a' := ?_) #[true, true, true, true, true, true, false, false, false, false, false, false, false, false, false, false] rfl rfl (any_of HT_.out (by kernel_rfl)) (fun _ _ _ h => h) (Or.inr ⟨by rfl, rfl⟩) ?_ ?_
   rotate_left
   ·
    simp only [Act.put, List.setIfInBounds_toArray, List.set_cons_zero, List.set_cons_succ, i64_w, i32_w]
    rfl
   refine pure_ (i := 6) (N := some 25) (v := ?_) (a' := ?_) #[true, true, true, true, true, true, true, false, false, false, false, false, false, false, false, false] rfl rfl (any_of HT_.out (by kernel_rfl)) (fun _ _ _ h => h) (Or.inl ⟨by rfl, ?_⟩) ?_ ?_
   rotate_left
   ·
    intro w'
    go_simp
    with_reducible rfl
   rotate_left
   ·
    simp only [Act.put, List.setIfInBounds_toArray, List.set_cons_zero, List.set_cons_succ, i64_w, i32_w]
    rfl
   refine pure_ (i := 7) (N := some 26) (v := ?_) (a' := ?_) #[true, true, true, true, true, true, true, true, false, false, false, false, false, false, false, false] rfl rfl (any_of HT_.out (by kernel_rfl)) (fun _ _ _ h => h) (Or.inl ⟨by rfl, ?_⟩) ?_ ?_
   rotate_left
   ·
    intro w'
    go_simp
    with_reducible rfl
   rotate_left
   ·
    simp only [Act.put, List.setIfInBounds_toArray, List.set_cons_zero, List.set_cons_succ, i64_w, i32_w]
    rfl
   refine pure_ (i := 8) (N := some 27) (v := undef) (a' := ?_) #[true, true, true, true, true, true, true, true, true, false, false, false, false, false, false, false] rfl rfl (any_of HT_.out (by kernel_rfl)) (fun _ _ _ h => h) (Or.inr ⟨by rfl, rfl⟩) ?_ ?_
   rotate_left
   ·
    simp only [Act.put, List.setIfInBounds_toArray, List.set_cons_zero, List.set_cons_succ, i64_w, i32_w]
    rfl
   refine pure_ (i := 9) (N := some 28) (v := undef) (a' := ?_) #[true, true, true, true, true, true, true, true, true, true, false, false, false, false, false, false] rfl rfl (any_of HT_.out (by kernel_rfl)) (fun _ _ _ h => h) (Or.inr ⟨by rfl, rfl⟩) ?_ ?_
   rotate_left
   ·
    simp only [Act.put, List.setIfInBounds_toArray, List.set_cons_zero, List.set_cons_succ, i64_w, i32_w]
    rfl
   refine pure_ (i := 10) (N := some 29) (v := undef) (a' := ?_) #[true, true, true, true, true, true, true, true, true, true, true, false, false, false, false, false] rfl rfl (any_of HT_.out (by kernel_rfl)) (fun _ _ _ h => h) (Or.inr ⟨by rfl, rfl⟩) ?_ ?_
   rotate_left
   ·
    simp only [Act.put, List.setIfInBounds_toArray, List.set_cons_zero, List.set_cons_succ, i64_w, i32_w]
    rfl
   refine pure_ (i := 11) (N := some 30) (v := undef) (a' := ?_) #[true, true, true, true, true, true, true, true, true, true, true, true, false, false, false, false] rfl rfl (any_of HT_.out (by kernel_rfl)) (fun _ _ _ h => h) (Or.inr ⟨by rfl, rfl⟩) ?_ ?_
   rotate_left
   ·
    simp only [Act.put, List.setIfInBounds_toArray, List.set_cons_zero, List.set_cons_succ, i64_w, i32_w]
    rfl
   refine pure_ (i := 12) (N := some 31) (v := undef) (a' := ?_) #[true, true, true, true, true, true, true, true, true, true, true, true, true, false, false, false] rfl rfl (any_of HT_.out (by kernel_rfl)) (fun _ _ _ h => h) (Or.inr ⟨by rfl, rfl⟩) ?_ ?_
   rotate_left
   ·
    simp only [Act.put, List.setIfInBounds_toArray, List.set_cons_zero, List.set_cons_succ, i64_w, i32_w]
    rfl
   refine pure_ (i := 13) (N := some 32) (v := undef) (a' := ?_) #[true, true, true, true, true, true, true, true, true, true, true, true, true, true, false, false] rfl rfl (any_of HT_.out (by kernel_rfl)) (fun _ _ _ h => h) (Or.inr ⟨by rfl, rfl⟩) ?_ ?_
   rotate_left
   ·
    simp only [Act.put, List.setIfInBounds_toArray, List.set_cons_zero, List.set_cons_succ, i64_w, i32_w]
    rfl
   refine pure_ (i := 14) (N := some 33) (v := ?_) (a' := ?_) #[true, true, true, true, true, true, true, true, true, true, true, true, true, true, true, false] rfl rfl (any_of HT_.out (by kernel_rfl)) (fun _ _ _ h => h) (Or.inl ⟨by rfl, ?_⟩) ?_ ?_
   rotate_left
   ·
    intro w'
    go_simp
    with_reducible rfl
   rotate_left
   ·
    simp only [Act.put, List.setIfInBounds_toArray, List.set_cons_zero, List.set_cons_succ, i64_w, i32_w]
    rfl
   refine pure_ (i := 15) (N := some 2) (v := ?_) (a' := ?_) #[true, true, true, true, true, true, true, true, true, true, true, true, true, true, true, true] rfl rfl (any_of HT_.out (by kernel_rfl)) (fun _ _ _ h => h) (Or.inl ⟨by rfl, ?_⟩) ?_ ?_
   rotate_left
   ·
    intro w'
    go_simp
    with_reducible rfl
   rotate_left
   ·
    simp only [Act.put, List.setIfInBounds_toArray, List.set_cons_zero, List.set_cons_succ, i64_w, i32_w]
    rfl
   refine done_ (done_of HT_.out (by kernel_rfl)) ?_
   try go_wp2
   go_ret
   exact ⟨by first | rfl | (simp [errW_none, errW_some] <;> rfl) | (simp [*, errW_none, errW_some] <;> rfl), by repeat (first | (with_reducible first | exact HB.out | apply below_alloc | apply pw_below_drewN | apply below_drew1 | refine below_set ?_ GW332.out) | exact HB.out)⟩
  rw [if_pos c13] at H
  have c13b0 : decide ((t338.length : Int) ≤ 40) = true := dT_ c13
  have c13b1 : decide (t338.length ≤ 40) = true := dT_ (by omega)
  clear c13
  replace H := Option.bind_eq_some_iff.mp H
  obtain ⟨t341, A140, H⟩ := H
  replace H : (if t341 = true then ((iF19.f kj2 t338).bind fun t342 => ((iF8.f kj2 t342 l0_0).bind fun t345 => (some t345))) else (some false)) = some r := H
  have A14 := Aside0.mk A140
  clear A140
  by_cases c15 : t341 = true
  rotate_left
  ·
   replace c15 := Bool.eq_false_iff.mpr c15
   subst c15
   replace H : (some false) = some r := by rw [if_neg (show ¬ (false = true) by decide)] at H; exact H
   obtain rfl := Option.some.inj H
   have hcz24_0 : wc.cell? ⟨gb332, 0, none⟩ = some (.slice A0_0 l0_0.length c0_0) := (blk_cell BK332.out 0).trans rfl
   have hfz24_0 := blk_frozen BK332.out 0
   try go_wp2_with (first | ((with_reducible refine gate_callee (f := 24) rfl ?_); refine goesL_ (some 18) rfl rfl Tryz.func24 (by kernel_rfl) rfl #[.agg #[.slice A0_0 l0_0.length c0_0]] rfl (by (try simp only [List.map_toArray, List.map_cons, List.map_nil]); first | done | rfl | (simp only [List.length_drop, List.length_take]; rfl)) ?_; (with_reducible refine (iF10.calls kj2 _ _ l0_0 t338 _ ?side1 HC0_0.out A12.out).mono ?_); (case side1 => repeat (first | exact (Kd.C_below HR0_0.out HB.out) | with_reducible first | apply cA_ | apply cN_ | apply cD_)); rintro e w25 ⟨v339, rfl, ho0, hb⟩; refine ⟨_, rfl, ?_⟩; have n0_ := Aside0.mk (Kd.R_lower ho0 (below_size (by repeat (first | (with_reducible first | exact HB.out | apply below_alloc | apply pw_below_drewN | apply below_drew1 | refine below_set ?_ GW332.out) | exact HB.out)))); have n1_ := Aside0.mk (blk_below (g := gb332) (o := .cells #[.slice A0_0 l0_0.length c0_0] 31 (0, 0)) (by (with_reducible repeat (first | refine blk_drewN ?_ _ | refine blk_drew ?_ | refine blk_alloc ?_ _)); exact BK332.out) hb); have n2_ := Aside0.mk (below_step (by repeat (first | (with_reducible first | exact HB.out | apply below_alloc | apply pw_below_drewN | apply below_drew1 | refine below_set ?_ GW332.out) | exact HB.out)) hb); clear BK332; clear HB; have HO340 := n0_; have BK332 := n1_; have HB := n2_; clear n0_ n1_ n2_; (try clear hb); (try clear hb2); (try clear hk); (try clear hi); (try clear ho0)))
   have n0_ := Aside0.mk (Kd.R_drew HO340.out)
   have n1_ := Aside0.mk (blk_drew BK332.out)
   have n2_ := Aside0.mk (below_drew1 HB.out)
   clear HO340
   clear BK332
   clear HB
   have HO340 := n0_
   have BK332 := n1_
   have HB := n2_
   clear n0_ n1_ n2_
   obtain ⟨Ao27, co27, eo27⟩ := Kd.R_slice HO340.out
   (first | subst eo27 | (injection eo27 with f1_ f2_ f3_; have f4_ := f1_.symm; have f5_ := f3_.symm; clear f1_ f2_ f3_; subst f4_; subst f5_))
   refine start_ (n := 16) (S := fun w' => True) (ds := []) #[false, false, false, false, false, false, false, false, false, false, false, false, false, false, false, false] (by kernel_rfl) rfl rfl trivial (fun hHeld => ?_); refine with_tabW iF15.tab5 iF15.bits5 (fun HT_ HW_ => ?_)
   generalize w25.drew = w26 at HO340 BK332 HB hHeld ⊢
   refine pure_ (i := 0) (N := some 19) (v := ?_) (a' := ?_) #[true, false, false, false, false, false, false, false, false, false, false, false, false, false, false, false] rfl rfl (any_of HT_.out (by kernel_rfl)) (fun _ _ _ h => h) (Or.inl ⟨by rfl, ?_⟩) ?_ ?_
   rotate_left
   ·
    intro w'
    go_simp
    with_reducible rfl
   rotate_left
   ·
    simp only [Act.put, List.setIfInBounds_toArray, List.set_cons_zero, List.set_cons_succ, i64_w, i32_w]
    rfl
   refine pure_ (i := 1) (N := some 20) (v := ?_) (a' := ?_) #[true, true, false, false, false, false, false, false, false, false, false, false, false, false, false, false] rfl rfl (any_of HT_.out (by kernel_rfl)) (fun _ _ _ h => h) (Or.inl ⟨by rfl, ?_⟩) ?_ ?_
   rotate_left
   ·
    intro w'
    go_simp
    with_reducible rfl
   rotate_left
   ·
    simp only [Act.put, List.setIfInBounds_toArray, List.set_cons_zero, List.set_cons_succ, i64_w, i32_w]
    rfl
   refine pure_ (i := 2) (N := some 21) (v := ?_) (a' := ?_) #[true, true, true, false, false, false, false, false, false, false, false, false, false, false, false, false] rfl rfl (any_of HT_.out (by kernel_rfl)) (fun _ _ _ h => h) (Or.inl ⟨by rfl, ?_⟩) ?_ ?_
   rotate_left
   ·
    intro w'
    go_simp
    with_reducible rfl
   rotate_left
   ·
    simp only [Act.put, List.setIfInBounds_toArray, List.set_cons_zero, List.set_cons_succ, i64_w, i32_w]
    rfl
   refine pure_ (i := 3) (N := some 22) (v := ?_) (a' := ?_) #[true, true, true, true, false, false, false, false, false, false, false, false, false, false, false, false] rfl rfl (any_of HT_.out (by kernel_rfl)) (fun _ _ _ h => h) (Or.inl ⟨by rfl, ?_⟩) ?_ ?_
   rotate_left
   ·
    intro w'
    go_simp
    with_reducible rfl
   rotate_left
   ·
    simp only [Act.put, List.setIfInBounds_toArray, List.set_cons_zero, List.set_cons_succ, i64_w, i32_w]
    rfl
   refine pure_ (i := 4) (N := some 23) (v := ?_) (a' := ?_) #[true, true, true, true, true, false, false, false, false, false, false, false, false, false, false, false] rfl rfl (any_of HT_.out (by kernel_rfl)) (fun _ _ _ h => h) (Or.inl ⟨by rfl, ?_⟩) ?_ ?_
   rotate_left
   ·
    intro w'
    go_simp
    with_reducible rfl
   rotate_left
   ·
    simp only [Act.put, List.setIfInBounds_toArray, List.set_cons_zero, List.set_cons_succ, i64_w, i32_w]
    rfl
   refine one_ (i := 5) (N := some 24) #[true, true, true, true, true, true, false, false, false, false, false, false, false, false, false, false] rfl rfl (one_of HT_.out (by kernel_rfl)) (by decide) (fun K hK => ?_)
   refine goes_ Tryz.func37 (by kernel_rfl) rfl #[.slice Ao27 t338.length co27] (by rfl) rfl rfl (by (try simp only [List.map_toArray, List.map_cons, List.map_nil]); first | done | rfl | (simp only [List.length_drop, List.length_take]; rfl)) ?_
   with_reducible refine (xF36.calls kj2 _ _ t338 false _ ?side1 ?side2 A14.out).mono ?_
   (case side1 => repeat (first | exact (Kd.R_reads' HO340.out).2.2 | with_reducible first | apply cA_ | apply cN_ | apply cD_))
   (case side2 => exact (Kd.R_reads' HO340.out).2.1)
   rintro e w' ⟨rfl, ⟨nd, rfl⟩⟩
   refine ⟨_, rfl, ?_⟩
   refine hK.out _ _ trivial (fun hHeld => ?_)
   clear hK K
   refine norm_ (a' := ?_) ?_ ?_
   rotate_left
   ·
    show Act.put _ (some 24) _ = _
    simp only [Act.put, List.setIfInBounds_toArray, List.set_cons_zero, List.set_cons_succ, i64_w, i32_w]
    rfl
   refine pure_ (i := 6) (N := some 25) (v := ?_) (a' := ?_) #[true, true, true, true, true, true, true, false, false, false, false, false, false, false, false, false] rfl rfl (any_of HT_.out (by kernel_rfl)) (fun _ _ _ h => h) (Or.inl ⟨by rfl, ?_⟩) ?_ ?_
   rotate_left
   ·
    intro w'
    go_simp
    with_reducible rfl
   rotate_left
   ·
    simp only [Act.put, List.setIfInBounds_toArray, List.set_cons_zero, List.set_cons_succ, i64_w, i32_w]
    rfl
   refine pure_ (i := 7) (N := some 26) (v := ?_) (a' := ?_) #[true, true, true, true, true, true, true, true, false, false, false, false, false, false, false, false] rfl rfl (any_of HT_.out (by kernel_rfl)) (fun _ _ _ h => h) (Or.inl ⟨by rfl, ?_⟩) ?_ ?_
   rotate_left
   ·
    intro w'
    go_simp
    with_reducible rfl
   rotate_left
   ·
    simp only [Act.put, List.setIfInBounds_toArray, List.set_cons_zero, List.set_cons_succ, i64_w, i32_w]
    rfl
   refine pure_ (i := 8) (N := some 27) (v := undef) (a' := ?_) #[true, true, true, true, true, true, true, true, true, false, false, false, false, false, false, false] rfl rfl (any_of HT_.out (by kernel_rfl)) (fun _ _ _ h => h) (Or.inr ⟨by rfl, rfl⟩) ?_ ?_
   rotate_left
   ·
    simp only [Act.put, List.setIfInBounds_toArray, List.set_cons_zero, List.set_cons_succ, i64_w, i32_w]
    rfl
   refine pure_ (i := 9) (N := some 28) (v := undef) (a' := ?_) #[true, true, true, true, true, true, true, true, true, true, false, false, false, false, false, false] rfl rfl (any_of HT_.out (by kernel_rfl)) (fun _ _ _ h => h) (Or.inr ⟨by rfl, rfl⟩) ?_ ?_
   rotate_left
   ·
    simp only [Act.put, List.setIfInBounds_toArray, List.set_cons_zero, List.set_cons_succ, i64_w, i32_w]
    rfl
   refine pure_ (i := 10) (N := some 29) (v := undef) (a' := ?_) #[true, true, true, true, true, true, true, true, true, true, true, false, false, false, false, false] rfl rfl (any_of HT_.out (by kernel_rfl)) (fun _ _ _ h => h) (Or.inr ⟨by rfl, rfl⟩) ?_ ?_
   rotate_left
   ·
    simp only [Act.put, List.setIfInBounds_toArray, List.set_cons_zero, List.set_cons_succ, i64_w, i32_w]
    rfl
   refine pure_ (i := 11) (N := some 30) (v := undef) (a' := ?_) #[true, true, true, true, true, true, true, true, true, true, true, true, false, false, false, false] rfl rfl (any_of HT_.out (by kernel_rfl)) (fun _ _ _ h => h) (Or.inr ⟨by rfl, rfl⟩) ?_ ?_
   rotate_left
   ·
    simp only [Act.put, List.setIfInBounds_toArray, List.set_cons_zero, List.set_cons_succ, i64_w, i32_w]
    rfl
   refine pure_ (i := 12) (N := some 31) (v := undef) (a' := ?_) #[true, true, true, true, true, true, true, true, true, true, true, true, true, false, false, false] rfl rfl (any_of HT_.out (by kernel_rfl)) (fun _ _ _ h => h) (Or.inr ⟨by rfl, rfl⟩) ?_ ?_
   rotate_left
   ·
    simp only [Act.put, List.setIfInBounds_toArray, List.set_cons_zero, List.set_cons_succ, i64_w, i32_w]
    rfl
   refine pure_ (i := 13) (N := some 32) (v := undef) (a' := ?_) #[true, true, true, true, true, true, true, true, true, true, true, true, true, true, false, false] rfl rfl (any_of HT_.out (by kernel_rfl)) (fun _ _ _ h => h) (Or.inr ⟨by rfl, rfl⟩) ?_ ?_
   rotate_left
   ·
    simp only [Act.put, List.setIfInBounds_toArray, List.set_cons_zero, List.set_cons_succ, i64_w, i32_w]
    rfl
   refine pure_ (i := 14) (N := some 33) (v := ?_) (a' := ?_) #[true, true, true, true, true, true, true, true, true, true, true, true, true, true, true, false] rfl rfl (any_of HT_.out (by kernel_rfl)) (fun _ _ _ h => h) (Or.inl ⟨by rfl, ?_⟩) ?_ ?_
   rotate_left
   ·
    intro w'
    go_simp
    with_reducible rfl
   rotate_left
   ·
    simp only [Act.put, List.setIfInBounds_toArray, List.set_cons_zero, List.set_cons_succ, i64_w, i32_w]
    rfl
   refine pure_ (i := 15) (N := some 2) (v := ?_) (a' := ?_) #[true, true, true, true, true, true, true, true, true, true, true, true, true, true, true, true] rfl rfl (any_of HT_.out (by kernel_rfl)) (fun _ _ _ h => h) (Or.inl ⟨by rfl, ?_⟩) ?_ ?_
   rotate_left
   ·
    intro w'
    go_simp
    with_reducible rfl
   rotate_left
   ·
    simp only [Act.put, List.setIfInBounds_toArray, List.set_cons_zero, List.set_cons_succ, i64_w, i32_w]
    rfl
   refine done_ (done_of HT_.out (by kernel_rfl)) ?_
   try go_wp2
   go_ret
   exact ⟨by first | rfl | (simp [errW_none, errW_some] <;> rfl) | (simp [*, errW_none, errW_some] <;> rfl), by repeat (first | (with_reducible first | exact HB.out | apply below_alloc | apply pw_below_drewN | apply below_drew1 | refine below_set ?_ GW332.out) | exact HB.out)⟩
  subst c15
  replace H : ((iF19.f kj2 t338).bind fun t342 => ((iF8.f kj2 t342 l0_0).bind fun t345 => (some t345))) = some r := by rw [if_pos rfl] at H; exact H
  replace H := Option.bind_eq_some_iff.mp H
  obtain ⟨t342, A160, H⟩ := H
  replace H : ((iF8.f kj2 t342 l0_0).bind fun t345 => (some t345)) = some r := H
  have A16 := Aside0.mk A160
  clear A160
  replace H := Option.bind_eq_some_iff.mp H
  obtain ⟨t345, A170, H⟩ := H
  replace H : (some t345) = some r := H
  have A17 := Aside0.mk A170
  clear A170
  obtain rfl := Option.some.inj H
  have hcz18_0 : wc.cell? ⟨gb332, 0, none⟩ = some (.slice A0_0 l0_0.length c0_0) := (blk_cell BK332.out 0).trans rfl
  have hfz18_0 := blk_frozen BK332.out 0
  try go_wp2_with (first | ((with_reducible refine gate_callee (f := 24) rfl ?_); refine goesL_ (some 18) rfl rfl Tryz.func24 (by kernel_rfl) rfl #[.agg #[.slice A0_0 l0_0.length c0_0]] rfl (by (try simp only [List.map_toArray, List.map_cons, List.map_nil]); first | done | rfl | (simp only [List.length_drop, List.length_take]; rfl)) ?_; (with_reducible refine (iF10.calls kj2 _ _ l0_0 t338 _ ?side1 HC0_0.out A12.out).mono ?_); (case side1 => repeat (first | exact (Kd.C_below HR0_0.out HB.out) | with_reducible first | apply cA_ | apply cN_ | apply cD_)); rintro e w19 ⟨v339, rfl, ho0, hb⟩; refine ⟨_, rfl, ?_⟩; have n0_ := Aside0.mk (Kd.R_lower ho0 (below_size (by repeat (first | (with_reducible first | exact HB.out | apply below_alloc | apply pw_below_drewN | apply below_drew1 | refine below_set ?_ GW332.out) | exact HB.out)))); have n1_ := Aside0.mk (blk_below (g := gb332) (o := .cells #[.slice A0_0 l0_0.length c0_0] 31 (0, 0)) (by (with_reducible repeat (first | refine blk_drewN ?_ _ | refine blk_drew ?_ | refine blk_alloc ?_ _)); exact BK332.out) hb); have n2_ := Aside0.mk (below_step (by repeat (first | (with_reducible first | exact HB.out | apply below_alloc | apply pw_below_drewN | apply below_drew1 | refine below_set ?_ GW332.out) | exact HB.out)) hb); clear BK332; clear HB; have HO340 := n0_; have BK332 := n1_; have HB := n2_; clear n0_ n1_ n2_; (try clear hb); (try clear hb2); (try clear hk); (try clear hi); (try clear ho0)))
  have n0_ := Aside0.mk (Kd.R_drew HO340.out)
  have n1_ := Aside0.mk (blk_drew BK332.out)
  have n2_ := Aside0.mk (below_drew1 HB.out)
  clear HO340
  clear BK332
  clear HB
  have HO340 := n0_
  have BK332 := n1_
  have HB := n2_
  clear n0_ n1_ n2_
  obtain ⟨Ao21, co21, eo21⟩ := Kd.R_slice HO340.out
  (first | subst eo21 | (injection eo21 with f1_ f2_ f3_; have f4_ := f1_.symm; have f5_ := f3_.symm; clear f1_ f2_ f3_; subst f4_; subst f5_))
  refine start_ (n := 16) (S := fun w' => w'.cell? ⟨gb332, 0, none⟩ = some (.slice A0_0 l0_0.length c0_0)) (ds := []) #[false, false, false, false, false, false, false, false, false, false, false, false, false, false, false, false] (by kernel_rfl) rfl rfl ((blk_cell BK332.out 0).trans rfl) (fun hHeld => ?_); refine with_tabW iF15.tab5 iF15.bits5 (fun HT_ HW_ => ?_)
  generalize w19.drew = w20 at HO340 BK332 HB hHeld ⊢
  refine pure_ (i := 0) (N := some 19) (v := ?_) (a' := ?_) #[true, false, false, false, false, false, false, false, false, false, false, false, false, false, false, false] rfl rfl (any_of HT_.out (by kernel_rfl)) (fun _ _ _ h => h) (Or.inl ⟨by rfl, ?_⟩) ?_ ?_
  rotate_left
  ·
   intro w'
   go_simp
   with_reducible rfl
  rotate_left
  ·
   simp only [Act.put, List.setIfInBounds_toArray, List.set_cons_zero, List.set_cons_succ, i64_w, i32_w]
   rfl
  refine pure_ (i := 1) (N := some 20) (v := ?_) (a' := ?_) #[true, true, false, false, false, false, false, false, false, false, false, false, false, false, false, false] rfl rfl (any_of HT_.out (by kernel_rfl)) (fun _ _ _ h => h) (Or.inl ⟨by rfl, ?_⟩) ?_ ?_
  rotate_left
  ·
   intro w'
   go_simp
   with_reducible rfl
  rotate_left
  ·
   simp only [Act.put, List.setIfInBounds_toArray, List.set_cons_zero, List.set_cons_succ, i64_w, i32_w]
   rfl
  refine pure_ (i := 2) (N := some 21) (v := ?_) (a' := ?_) #[true, true, true, false, false, false, false, false, false, false, false, false, false, false, false, false] rfl rfl (any_of HT_.out (by kernel_rfl)) (fun _ _ _ h => h) (Or.inl ⟨by rfl, ?_⟩) ?_ ?_
  rotate_left
  ·
   intro w'
   go_simp
   with_reducible rfl
  rotate_left
  ·
   simp only [Act.put, List.setIfInBounds_toArray, List.set_cons_zero, List.set_cons_succ, i64_w, i32_w]
   rfl
  refine pure_ (i := 3) (N := some 22) (v := ?_) (a' := ?_) #[true, true, true, true, false, false, false, false, false, false, false, false, false, false, false, false] rfl rfl (any_of HT_.out (by kernel_rfl)) (fun _ _ _ h => h) (Or.inl ⟨by rfl, ?_⟩) ?_ ?_
  rotate_left
  ·
   intro w'
   go_simp
   with_reducible rfl
  rotate_left
  ·
   simp only [Act.put, List.setIfInBounds_toArray, List.set_cons_zero, List.set_cons_succ, i64_w, i32_w]
   rfl
  refine pure_ (i := 4) (N := some 23) (v := ?_) (a' := ?_) #[true, true, true, true, true, false, false, false, false, false, false, false, false, false, false, false] rfl rfl (any_of HT_.out (by kernel_rfl)) (fun _ _ _ h => h) (Or.inl ⟨by rfl, ?_⟩) ?_ ?_
  rotate_left
  ·
   intro w'
   go_simp
   with_reducible rfl
  rotate_left
  ·
   simp only [Act.put, List.setIfInBounds_toArray, List.set_cons_zero, List.set_cons_succ, i64_w, i32_w]
   rfl
  refine one_ (i := 5) (N := some 24) #[true, true, true, true, true, true, false, false, false, false, false, false, false, false, false, false] rfl rfl (one_of HT_.out (by kernel_rfl)) (by decide) (fun K hK => ?_)
  refine goes_ Tryz.func37 (by kernel_rfl) rfl #[.slice Ao21 t338.length co21] (by rfl) rfl rfl (by (try simp only [List.map_toArray, List.map_cons, List.map_nil]); first | done | rfl | (simp only [List.length_drop, List.length_take]; rfl)) ?_
  with_reducible refine (xF36.calls kj2 _ _ t338 true _ ?side1 ?side2 A14.out).mono ?_
  (case side1 => repeat (first | exact (Kd.R_reads' HO340.out).2.2 | with_reducible first | apply cA_ | apply cN_ | apply cD_))
  (case side2 => exact (Kd.R_reads' HO340.out).2.1)
  rintro e w' ⟨rfl, ⟨nd, rfl⟩⟩
  refine ⟨_, rfl, ?_⟩
  refine hK.out _ _ ((blk_cell BK332.out 0).trans rfl) (fun hHeld => ?_)
  clear hK K
  refine norm_ (a' := ?_) ?_ ?_
  rotate_left
  ·
   show Act.put _ (some 24) _ = _
   simp only [Act.put, List.setIfInBounds_toArray, List.set_cons_zero, List.set_cons_succ, i64_w, i32_w]
   rfl
  refine pure_ (i := 6) (N := some 25) (v := ?_) (a' := ?_) #[true, true, true, true, true, true, true, false, false, false, false, false, false, false, false, false] rfl rfl (any_of HT_.out (by kernel_rfl)) (fun _ _ _ h => h) (Or.inl ⟨by rfl, ?_⟩) ?_ ?_
  rotate_left
  ·
   intro w'
   go_simp
   with_reducible rfl
  rotate_left
  ·
   simp only [Act.put, List.setIfInBounds_toArray, List.set_cons_zero, List.set_cons_succ, i64_w, i32_w]
   rfl
  refine pure_ (i := 7) (N := some 26) (v := ?_) (a' := ?_) #[true, true, true, true, true, true, true, true, false, false, false, false, false, false, false, false] rfl rfl (any_of HT_.out (by kernel_rfl)) (fun _ _ _ h => h) (Or.inl ⟨by rfl, ?_⟩) ?_ ?_
  rotate_left
  ·
   intro w'
   go_simp
   with_reducible rfl
  rotate_left
  ·
   simp only [Act.put, List.setIfInBounds_toArray, List.set_cons_zero, List.set_cons_succ, i64_w, i32_w]
   rfl
  refine pure_ (i := 8) (N := some 27) (v := ?_) (a' := ?_) #[true, true, true, true, true, true, true, true, true, false, false, false, false, false, false, false] rfl rfl (any_of HT_.out (by kernel_rfl)) (fun _ _ _ h => h) (Or.inl ⟨by rfl, ?_⟩) ?_ ?_
  rotate_left
  ·
   intro w'
   go_simp
   with_reducible rfl
  rotate_left
  ·
   simp only [Act.put, List.setIfInBounds_toArray, List.set_cons_zero, List.set_cons_succ, i64_w, i32_w]
   rfl
  refine pure_ (i := 11) (N := some 30) (v := ?_) (a' := ?_) #[true, true, true, true, true, true, true, true, true, false, false, true, false, false, false, false] rfl rfl (any_of HT_.out (by kernel_rfl)) (fun _ _ _ h => h) (Or.inl ⟨by rfl, ?_⟩) ?_ ?_
  rotate_left
  ·
   intro w'
   go_simp
   with_reducible rfl
  rotate_left
  ·
   simp only [Act.put, List.setIfInBounds_toArray, List.set_cons_zero, List.set_cons_succ, i64_w, i32_w]
   rfl
  refine take_ (i := 12) (N := some 31) (v := ?_) (a' := ?_) #[true, true, true, true, true, true, true, true, true, false, false, true, true, false, false, false] rfl rfl (take_ofW HT_.out HW_.out (by kernel_rfl)) (fun _ _ _ h => h) (Or.inl ⟨by rfl, ?_⟩) hHeld ?_ ?_
  rotate_left
  ·
   intro w' s0
   go_simp
   with_reducible rfl
  rotate_left
  ·
   simp only [Act.put, List.setIfInBounds_toArray, List.set_cons_zero, List.set_cons_succ, i64_w, i32_w]
   rfl
  refine one_ (i := 9) (N := some 28) #[true, true, true, true, true, true, true, true, true, true, false, true, true, false, false, false] rfl rfl (one_of HT_.out (by kernel_rfl)) (by decide) (fun K hK => ?_)
  refine goes_ Tryz.func39 (by kernel_rfl) rfl #[.slice Ao21 t338.length co21] (by rfl) rfl rfl (by (try simp only [List.map_toArray, List.map_cons, List.map_nil]); first | done | rfl | (simp only [List.length_drop, List.length_take]; rfl)) ?_
  with_reducible refine (iF19.calls kj2 _ _ t338 t342 _ ?side1 ?side2 A16.out).mono ?_
  (case side1 => repeat (first | exact (Kd.R_reads' HO340.out).2.2 | with_reducible first | apply cA_ | apply cN_ | apply cD_))
  (case side2 => exact (Kd.R_reads' HO340.out).2.1)
  rintro e w22 ⟨v343, rfl, ho0, hb⟩
  refine ⟨_, rfl, ?_⟩
  have n0_ := Aside0.mk (Kd.R_below (by (with_reducible repeat (first | apply Kd.R_alloc | apply Kd.R_drewN | apply Kd.R_drew)); exact HO340.out) hb)
  have n1_ := Aside0.mk (Kd.R_lower ho0 (below_size (by repeat (first | (with_reducible first | exact HB.out | apply below_alloc | apply pw_below_drewN | apply below_drew1 | refine below_set ?_ GW332.out) | exact HB.out))))
  have n2_ := Aside0.mk (blk_below (g := gb332) (o := .cells #[.slice A0_0 l0_0.length c0_0] 31 (0, 0)) (by (with_reducible repeat (first | refine blk_drewN ?_ _ | refine blk_drew ?_ | refine blk_alloc ?_ _)); exact BK332.out) hb)
  have n3_ := Aside0.mk (below_step (by repeat (first | (with_reducible first | exact HB.out | apply below_alloc | apply pw_below_drewN | apply below_drew1 | refine below_set ?_ GW332.out) | exact HB.out)) hb)
  clear HO340
  clear BK332
  clear HB
  have HO340 := n0_
  have HO344 := n1_
  have BK332 := n2_
  have HB := n3_
  clear n0_ n1_ n2_ n3_
  (try clear hb)
  (try clear hb2)
  (try clear hk)
  (try clear hi)
  (try clear ho0)
  obtain ⟨Ao23, co23, eo23⟩ := Kd.R_slice HO344.out
  (first | subst eo23 | (injection eo23 with f1_ f2_ f3_; have f4_ := f1_.symm; have f5_ := f3_.symm; clear f1_ f2_ f3_; subst f4_; subst f5_))
  refine hK.out _ _ ((blk_cell BK332.out 0).trans rfl) (fun hHeld => ?_)
  clear hK K
  refine norm_ (a' := ?_) ?_ ?_
  rotate_left
  ·
   show Act.put _ (some 28) _ = _
   simp only [Act.put, List.setIfInBounds_toArray, List.set_cons_zero, List.set_cons_succ, i64_w, i32_w]
   rfl
  refine pure_ (i := 10) (N := some 29) (v := ?_) (a' := ?_) #[true, true, true, true, true, true, true, true, true, true, true, true, true, false, false, false] rfl rfl (any_of HT_.out (by kernel_rfl)) (fun _ _ _ h => h) (Or.inl ⟨by rfl, ?_⟩) ?_ ?_
  rotate_left
  ·
   intro w'
   go_simp
   with_reducible rfl
  rotate_left
  ·
   simp only [Act.put, List.setIfInBounds_toArray, List.set_cons_zero, List.set_cons_succ, i64_w, i32_w]
   rfl
  refine one_ (i := 13) (N := some 32) #[true, true, true, true, true, true, true, true, true, true, true, true, true, true, false, false] rfl rfl (one_of HT_.out (by kernel_rfl)) (by decide) (fun K hK => ?_)
  refine goes_ Tryz.func38 (by kernel_rfl) rfl #[.slice Ao23 t342.length co23, .slice A0_0 l0_0.length c0_0] (by rfl) rfl rfl (by (try simp only [List.map_toArray, List.map_cons, List.map_nil]); first | done | rfl | (simp only [List.length_drop, List.length_take]; rfl)) ?_
  with_reducible refine (iF8.calls kj2 _ _ t342 _ _ l0_0 t345 _ ?side1 ?side2 ?side3 ?side4 A17.out).mono ?_
  (case side1 => repeat (first | exact (Kd.R_reads' HO344.out).2.2 | with_reducible first | apply cA_ | apply cN_ | apply cD_))
  (case side2 => exact (Kd.R_reads' HO344.out).2.1)
  (case side3 => repeat (first | exact (Kd.C_below HR0_0.out HB.out) | with_reducible first | apply cA_ | apply cN_ | apply cD_))
  (case side4 => exact HC0_0.out)
  rintro e w' ⟨rfl, ⟨nd, rfl⟩⟩
  refine ⟨_, rfl, ?_⟩
  refine hK.out _ _ ((blk_cell BK332.out 0).trans rfl) (fun hHeld => ?_)
  clear hK K
  refine norm_ (a' := ?_) ?_ ?_
  rotate_left
  ·
   show Act.put _ (some 32) _ = _
   simp only [Act.put, List.setIfInBounds_toArray, List.set_cons_zero, List.set_cons_succ, i64_w, i32_w]
   rfl
  refine pure_ (i := 14) (N := some 33) (v := ?_) (a' := ?_) #[true, true, true, true, true, true, true, true, true, true, true, true, true, true, true, false] rfl rfl (any_of HT_.out (by kernel_rfl)) (fun _ _ _ h => h) (Or.inl ⟨by rfl, ?_⟩) ?_ ?_
  rotate_left
  ·
   intro w'
   go_simp
   with_reducible rfl
  rotate_left
  ·
   simp only [Act.put, List.setIfInBounds_toArray, List.set_cons_zero, List.set_cons_succ, i64_w, i32_w]
   rfl
  refine pure_ (i := 15) (N := some 2) (v := ?_) (a' := ?_) #[true, true, true, true, true, true, true, true, true, true, true, true, true, true, true, true] rfl rfl (any_of HT_.out (by kernel_rfl)) (fun _ _ _ h => h) (Or.inl ⟨by rfl, ?_⟩) ?_ ?_
  rotate_left
  ·
   intro w'
   go_simp
   with_reducible rfl
  rotate_left
  ·
   simp only [Act.put, List.setIfInBounds_toArray, List.set_cons_zero, List.set_cons_succ, i64_w, i32_w]
   rfl
  refine done_ (done_of HT_.out (by kernel_rfl)) ?_
  try go_wp2
  go_ret
  exact ⟨by first | rfl | (simp [errW_none, errW_some] <;> rfl) | (simp [*, errW_none, errW_some] <;> rfl), by repeat (first | (with_reducible first | exact HB.out | apply below_alloc | apply pw_below_drewN | apply below_drew1 | refine below_set ?_ GW332.out) | exact HB.out)⟩
end Go.Proofs.YtjpepfdpihojfaaGreatDoor.P
namespace Go.Proofs
open Go.Shelf
def Tryz.lays160_ren : Go.Shelf.Ren := ⟨fun | 160 => 56 | 232 => 67 | 231 => 66 | 227 => 68 | 234 => 70 | 233 => 69 | 236 => 72 | 235 => 71 | 228 => 79 | 271 => 82 | 151 => 81 | 197 => 80 | 120 => 94 | 152 => 93 | 260 => 92 | 137 => 111 | 119 => 112 | 224 => 113 | 225 => 114 | 217 => 130 | 266 => 140 | n => n, fun | 9 => 9 | 4 => 4 | 3 => 3 | 5 => 5 | 117 => 101 | 116 => 100 | 0 => 0 | 124 => 104 | 21 => 21 | 105 => 110 | 46 => 97 | 119 => 121 | 139 => 158 | 138 => 157 | n => n, fun | 3 => 0 | 4 => 1 | n => n⟩
theorem Tryz.lays160 : Go.Proofs.Lays.n160 Tryz.prog Tryz.lays160_ren := {
  mixed := by kernel_rfl
  f119 := Tryz.func112.trans (congrArg some (by kernel_rfl))
  f120 := Tryz.func94.trans (congrArg some (by kernel_rfl))
  f137 := Tryz.func111.trans (congrArg some (by kernel_rfl))
  f151 := Tryz.func81.trans (congrArg some (by kernel_rfl))
  f152 := Tryz.func93.trans (congrArg some (by kernel_rfl))
  f160 := Tryz.func56.trans (congrArg some (by kernel_rfl))
  f197 := Tryz.func80.trans (congrArg some (by kernel_rfl))
  f217 := Tryz.func130.trans (congrArg some (by kernel_rfl))
  f224 := Tryz.func113.trans (congrArg some (by kernel_rfl))
  f225 := Tryz.func114.trans (congrArg some (by kernel_rfl))
  f227 := Tryz.func68.trans (congrArg some (by kernel_rfl))
  f228 := Tryz.func79.trans (congrArg some (by kernel_rfl))
  f231 := Tryz.func66.trans (congrArg some (by kernel_rfl))
  f232 := Tryz.func67.trans (congrArg some (by kernel_rfl))
  f233 := Tryz.func69.trans (congrArg some (by kernel_rfl))
  f234 := Tryz.func70.trans (congrArg some (by kernel_rfl))
  f235 := Tryz.func71.trans (congrArg some (by kernel_rfl))
  f236 := Tryz.func72.trans (congrArg some (by kernel_rfl))
  f260 := Tryz.func92.trans (congrArg some (by kernel_rfl))
  f266 := Tryz.func140.trans (congrArg some (by kernel_rfl))
  f271 := Tryz.func82.trans (congrArg some (by kernel_rfl))
  t0 := Tryz.underlying0
  a0 := Tryz.isAgg0
  z0 := Tryz.sizeOf0
  v0 := Tryz.zeroValue0
  t3 := Tryz.underlying3
  a3 := Tryz.isAgg3
  z3 := Tryz.sizeOf3
  v3 := Tryz.zeroValue3
  t4 := Tryz.underlying4
  a4 := Tryz.isAgg4
  z4 := Tryz.sizeOf4
  v4 := Tryz.zeroValue4
  t5 := Tryz.underlying5
  a5 := Tryz.isAgg5
  z5 := Tryz.sizeOf5
  v5 := Tryz.zeroValue5
  t9 := Tryz.underlying9
  a9 := Tryz.isAgg9
  z9 := Tryz.sizeOf9
  v9 := Tryz.zeroValue9
  t21 := Tryz.underlying21
  a21 := Tryz.isAgg21
  z21 := Tryz.sizeOf21
  v21 := Tryz.zeroValue21
  t46 := Tryz.underlying97
  a46 := Tryz.isAgg97
  z46 := Tryz.sizeOf97
  v46 := Tryz.zeroValue97
  t105 := Tryz.underlying110
  a105 := Tryz.isAgg110
  z105 := Tryz.sizeOf110
  v105 := Tryz.zeroValue110
  t116 := Tryz.underlying100
  a116 := Tryz.isAgg100
  z116 := Tryz.sizeOf100
  t117 := Tryz.underlying101
  a117 := Tryz.isAgg101
  z117 := Tryz.sizeOf101
  v117 := Tryz.zeroValue101
  t119 := Tryz.underlying121
  a119 := Tryz.isAgg121
  z119 := Tryz.sizeOf121
  t124 := Tryz.underlying104
  a124 := Tryz.isAgg104
  z124 := Tryz.sizeOf104
  v124 := Tryz.zeroValue104
  t138 := Tryz.underlying157
  a138 := Tryz.isAgg157
  z138 := Tryz.sizeOf157
  v138 := Tryz.zeroValue157
  t139 := Tryz.underlying158
  a139 := Tryz.isAgg158
  z139 := Tryz.sizeOf158
  v139 := Tryz.zeroValue158
  g3 := by kernel_rfl
  g4 := by kernel_rfl }
end Go.Proofs
namespace Go.Proofs.YtjpepfdpihojfaaGreatDoor.P
open Go.RowKit Go.Proofs.YtjpepfdpihojfaaGreatDoorW.PrintWords Go.Proofs.YtjpepfdpihojfaaGreatDoorW.PrintLast Go.Proofs.YtjpepfdpihojfaaGreatDoorW.PrintMore
attribute [local go_sem] max2_int min2_int max_two min_two max_three min_three max_four min_four
def iF11.letter (c : UInt8) : Bool := decide (97 ≤ c.toNat ∧ c.toNat ≤ 122)
def iF11.f (a0 : ByteArray) : Option Bool := if a0.size ≤ 9223372036854775807 then some (a0.data.toList.all iF11.letter) else none
def iF11.abc : List UInt8 := [97, 98, 99, 100, 101, 102, 103, 104, 105, 106, 107, 108, 109, 110, 111, 112, 113, 114, 115, 116, 117, 118, 119, 120, 121, 122]
theorem iF11.abc_mem (c : UInt8) : iF11.abc.contains c = iF11.letter c := by
 have h : ∀ n : Fin 256, iF11.abc.contains (UInt8.ofNat n.val) = iF11.letter (UInt8.ofNat n.val) := by decide +kernel
 have := h ⟨c.toNat, c.toNat_lt⟩
 simpa using this
theorem iF11.dw_nil (p : UInt8 → Bool) : ∀ l : List UInt8, l.dropWhile p = [] ↔ ∀ x ∈ l, p x = true
 | [] => by simp
 | a :: l => by
  cases h : p a
  ·
   simp [List.dropWhile_cons, h]
  simp [List.dropWhile_cons, h, iF11.dw_nil p l]
theorem iF11.dw_head (p : UInt8 → Bool) : ∀ (l t : List UInt8) (a : UInt8), l.dropWhile p = a :: t → p a = false
 | [], _, _, h => by simp at h
 | b :: l, t, a, h => by
  cases hb : p b
  ·
   simp [List.dropWhile_cons, hb] at h; rw [← h.1]; exact hb
  simp [List.dropWhile_cons, hb] at h; exact iF11.dw_head p l t a h
theorem iF11.trim_eq (p : UInt8 → Bool) (l : List UInt8) : ((l.reverse.dropWhile p).reverse.dropWhile p).isEmpty = l.all p := by
 rw [Bool.eq_iff_iff, List.isEmpty_iff, iF11.dw_nil p, List.all_eq_true]
 constructor
 ·
  intro h
  cases hm : l.reverse.dropWhile p with
  | nil =>
   rw [iF11.dw_nil p] at hm
   exact fun x hx => hm x (by simpa using hx)
  | cons a t =>
   have h1 : p a = true := h a (by rw [hm]; simp)
   rw [iF11.dw_head p _ _ _ hm] at h1; cases h1
 intro h x hx
 have : x ∈ l.reverse.dropWhile p := by simpa using hx
 have := (List.dropWhile_sublist p).subset this
 exact h x (by simpa using this)
theorem iF11.trim_nil (l : List UInt8) : (Lib.trimS l iF11.abc).isEmpty = l.all iF11.letter := by
 unfold Lib.trimS Lib.trimLeftS Lib.trimRightS
 have : (fun x => iF11.abc.contains x) = iF11.letter := funext iF11.abc_mem
 rw [this, iF11.trim_eq]
theorem iF11.rb {a b : Bool} (h : a = b) : Ending.returned (.bool a) = .returned (.bool b) := by rw [h]
set_option maxHeartbeats 2000000 in
theorem iF11.calls (a0 : ByteArray) (r : Bool) (w : World) (h : iF11.f a0 = some r) :
  Calls Tryz.prog 40 #[.string a0] w fun e w' => e = .returned (.bool r) ∧ Below w.heap.size w w' := by
 unfold iF11.f at h
 by_cases hs : a0.size ≤ 9223372036854775807
 rotate_left
 ·
  rw [if_neg hs] at h; cases h
 rw [if_pos hs] at h
 have H := Aside0.mk (Option.some.inj h)
 clear h
 have HC := Aside0.mk (Go.Proofs.Any.strings_Trim_laid Go.Proofs.Tryz.lays160 (by kernel_rfl) a0 ⟨#[97, 98, 99, 100, 101, 102, 103, 104, 105, 106, 107, 108, 109, 110, 111, 112, 113, 114, 115, 116, 117, 118, 119, 120, 121, 122]⟩ w hs (by decide) (Go.Proofs.ascii_of_all (by decide)))
 have HT := Aside0.mk ((show (Lib.trimS a0.data.toList iF11.abc).isEmpty = r from (iF11.trim_nil _).trans H.out))
 clear H
 go_enter Tryz.func40, Tryz.ntmps40
 go_wp2_with fail
 refine HC.out.mono ?_
 clear HC
 rintro e w1 ⟨rfl, hb0⟩
 have HB := Aside0.mk hb0
 clear hb0
 obtain ⟨t, ht⟩ : ∃ t, t = Lib.trimS a0.data.toList iF11.abc := ⟨_, rfl⟩
 rw [show Lib.trimS a0.data.toList (⟨#[97, 98, 99, 100, 101, 102, 103, 104, 105, 106, 107, 108, 109, 110, 111, 112, 113, 114, 115, 116, 117, 118, 119, 120, 121, 122]⟩ : ByteArray).data.toList = t from ht.symm]
 rw [← ht] at HT
 clear ht
 cases t with
 | nil =>
  go_wp2_with fail
  go_ret
  exact ⟨iF11.rb (by rw [← HT.out]; rfl), HB.out⟩
 | cons c t =>
  go_wp2_with fail
  go_ret
  exact ⟨iF11.rb (by rw [← HT.out]; rfl), HB.out⟩
theorem iF14.disable (w : World) : (callFunc 115 #[]).run Tryz.prog w = .ok (.value (.tuple #[])) w := run_call_mark0 Tryz.func115 (by kernel_rfl) (by kernel_rfl) (by kernel_rfl) .disable (by kernel_rfl) w
theorem iF14.enable (w : World) : (callFunc 117 #[]).run Tryz.prog w = .ok (.value (.tuple #[])) w := run_call_mark0 Tryz.func117 (by kernel_rfl) (by kernel_rfl) (by kernel_rfl) .enable (by kernel_rfl) w
theorem iF14.acquire (a : Addr) (w : World) : (callFunc 118 #[.pointer (some a)]).run Tryz.prog w = .ok (.value (.tuple #[])) w := run_call_marked Tryz.func118 (by kernel_rfl) (by kernel_rfl) (by kernel_rfl) .acquire (by kernel_rfl) a w
theorem iF14.releaseMerge (a : Addr) (w : World) : (callFunc 120 #[.pointer (some a)]).run Tryz.prog w = .ok (.value (.tuple #[])) w := run_call_marked Tryz.func120 (by kernel_rfl) (by kernel_rfl) (by kernel_rfl) .releaseMerge (by kernel_rfl) a w
set_option maxHeartbeats 1600000 in
theorem iF14.store_deferred (a : Addr) (x : Value) (u : FrameMode) (w : World) (hc : w.cell? a = some x) (hz : w.frozen? a = false) :
  CallsD Tryz.prog 86 #[.pointer (some a), .bool true] u w fun e u' w' => u' = u ∧ (e = .returned (.tuple #[]) ∧ w' = w.drew.setCell a (.int .u32 1)) := by
 have hc' : w.drew.cell? a = some x := by go_simp
 have hz' : w.drew.frozen? a = false := by go_simp
 have hst := run_call_store (P := Tryz.prog) Tryz.func97 (by kernel_rfl) (by kernel_rfl) (by kernel_rfl) (by kernel_rfl) (k := .u32) (y := 1) hc' hz'
 go_enter_d Tryz.func86, Tryz.ntmps86
 go_wp2
 go_region_calls
 all_goals (go_end0; exact ⟨rfl, rfl⟩)
set_option maxHeartbeats 1600000 in
theorem iF14.unlock_deferred (a : Addr) (u : FrameMode) (w : World) (hc : w.cell? a = some (.int .i32 1)) (hz : w.frozen? a = false) :
  CallsD Tryz.prog 85 #[.pointer (some a)] u w fun e u' w' => u' = u ∧ (e = .returned (.tuple #[]) ∧ w' = w.setCell a (.int .i32 0)) := by
 have hd := iF14.disable
 have he := iF14.enable
 have hr := iF14.releaseMerge
 have hadd := run_call_add (P := Tryz.prog) Tryz.func121 (by kernel_rfl) (by kernel_rfl) (by kernel_rfl) .i32 (by kernel_rfl) (y := -1) (s := 0) hc hz (by simp [go_sem]; rfl)
 have hcv := run_convert_to_unsafe (P := Tryz.prog) (src := 163) (dst := 167) Tryz.underlying163 Tryz.underlying167 (by kernel_rfl) hc
 go_enter_d Tryz.func85, Tryz.ntmps85
 go_wp2
 go_end0
 go_wp2
 go_end0
 exact ⟨rfl, rfl⟩
set_option maxHeartbeats 1600000 in
theorem iF14.lock_free (a : Addr) (w : World) (hc : w.cell? a = some (.int .i32 0)) (hz : w.frozen? a = false) :
  Calls Tryz.prog 84 #[.pointer (some a)] w fun e w' => e = .returned (.tuple #[]) ∧ w' = w.setCell a (.int .i32 1) := by
 have hd := iF14.disable
 have he := iF14.enable
 have ha := iF14.acquire
 have hcas := run_call_cas_hit (P := Tryz.prog) Tryz.func116 (by kernel_rfl) (by kernel_rfl) (by kernel_rfl) .i32 (by kernel_rfl) (y := 1) hc hz
 have hc' : (w.setCell a (.int .i32 1)).cell? a = some (.int .i32 1) := World.cell?_setCell_same w a _ hc
 have hcv := run_convert_to_unsafe (P := Tryz.prog) (src := 163) (dst := 167) Tryz.underlying163 Tryz.underlying167 (by kernel_rfl) hc'
 go_enter Tryz.func84, Tryz.ntmps84
 go_wp2
 first | go_end0 | (simp only [Exit.inBlock, Exit.then]; refine bodyPost_ret (results_none rfl _ _ _) rfl ?_) | refine bodyPost_ret (results_none rfl _ _ _) rfl ?_
 go_wp2
 go_end0
 exact ⟨rfl, rfl⟩
theorem iF14.zc : Tryz.zeroCells126.toList = List.replicate 257 (Value.slice none 0 0) := by kernel_rfl
theorem iF14.info9 : (Tryz.prog.info? 9).map (fun i => (i.zero, i.size, i.bytes)) = some (some (.string ⟨#[]⟩), 1, 16) := by kernel_rfl
theorem iF14.makeS (W : World) : (Instr.makeSlice 26 (.int .i64 0) (.int .i64 2)).run Tryz.prog W = .ok (.slice (some ⟨W.heap.size, 0, none⟩) 0 2) (W.alloc (.cells (madeCells #[.string ⟨#[]⟩] 2) 9)) := by
 obtain ⟨i0, hi, hz0, hz1, hz2⟩ := info_parts iF14.info9
 have h := run_makeSlice (P := Tryz.prog) W 26 9 i0 _ Tryz.underlying26 hi hz0 .i64 .i64 0 2 (by omega) (by omega) (by rw [hz1]; decide) (by rw [hz2]; decide) (by omega)
 rw [hz1] at h
 exact h
def iF14.Tb (W : World) (g : Nat) (x y v : Value) : Prop := ∃ cs : List Value, W.heap[g]? = some (.cells cs.toArray 126 (0, 0)) ∧ cs.length = 257 ∧ (∀ i, i < 256 → i ≠ 42 → i ≠ 63 → cs[i]? = some (Value.slice none 0 0)) ∧ cs[42]? = some x ∧ cs[63]? = some y ∧ cs[256]? = some v
theorem iF14.Tb.fro {W : World} {g : Nat} {x y v : Value} (h : iF14.Tb W g x y v) (i : Nat) : W.frozen? ⟨g, i, none⟩ = false := by
 obtain ⟨cs, h1, -⟩ := h
 simp [World.frozen?, h1]
theorem iF14.Tb.at {W : World} {g : Nat} {x y v : Value} (h : iF14.Tb W g x y v) (i : Nat) (h0 : i < 256) (h1 : i ≠ 42) (h2 : i ≠ 63) : W.cell? ⟨g, i, none⟩ = some (Value.slice none 0 0) := by
 obtain ⟨cs, h1', h2', h3, -⟩ := h
 have := h3 i h0 h1 h2
 simpa [World.cell?, h1'] using this
theorem iF14.Tb.c42 {W : World} {g : Nat} {x y v : Value} (h : iF14.Tb W g x y v) : W.cell? ⟨g, 42, none⟩ = some x := by
 obtain ⟨cs, h1', h2', h3, h4, h5, h6⟩ := h
 simpa [World.cell?, h1'] using h4
theorem iF14.Tb.c63 {W : World} {g : Nat} {x y v : Value} (h : iF14.Tb W g x y v) : W.cell? ⟨g, 63, none⟩ = some y := by
 obtain ⟨cs, h1', h2', h3, h4, h5, h6⟩ := h
 simpa [World.cell?, h1'] using h5
theorem iF14.Tb.c256 {W : World} {g : Nat} {x y v : Value} (h : iF14.Tb W g x y v) : W.cell? ⟨g, 256, none⟩ = some v := by
 obtain ⟨cs, h1', h2', h3, h4, h5, h6⟩ := h
 simpa [World.cell?, h1'] using h6
theorem iF14.Tb.put {W : World} {g i : Nat} {cs : List Value} (u : Value) (h : W.heap[g]? = some (.cells cs.toArray 126 (0, 0))) : (W.setCell ⟨g, i, none⟩ u).heap[g]? = some (.cells (cs.set i u).toArray 126 (0, 0)) := by
 rw [setCell_eq_setRow W g i _ 126 (0, 0) u h, setRow_heap W g _ _ 126 (0, 0) h]
 simp
theorem iF14.Tb.s42 {W : World} {g : Nat} {x y v : Value} (h : iF14.Tb W g x y v) (u : Value) : iF14.Tb (W.setCell ⟨g, 42, none⟩ u) g u y v := by
 obtain ⟨cs, h1, h2, h3, h4, h5, h6⟩ := h
 refine ⟨cs.set 42 u, iF14.Tb.put u h1, by simpa using h2, fun i a b c => ?_, ?_, ?_, ?_⟩
 ·
  rw [List.getElem?_set_ne (by omega)]; exact h3 i a b c
 ·
  rw [List.getElem?_set_self (by omega)]
 ·
  rw [List.getElem?_set_ne (by omega)]; exact h5
 rw [List.getElem?_set_ne (by omega)]; exact h6
theorem iF14.Tb.s63 {W : World} {g : Nat} {x y v : Value} (h : iF14.Tb W g x y v) (u : Value) : iF14.Tb (W.setCell ⟨g, 63, none⟩ u) g x u v := by
 obtain ⟨cs, h1, h2, h3, h4, h5, h6⟩ := h
 refine ⟨cs.set 63 u, iF14.Tb.put u h1, by simpa using h2, fun i a b c => ?_, ?_, ?_, ?_⟩
 ·
  rw [List.getElem?_set_ne (by omega)]; exact h3 i a b c
 ·
  rw [List.getElem?_set_ne (by omega)]; exact h4
 ·
  rw [List.getElem?_set_self (by omega)]
 rw [List.getElem?_set_ne (by omega)]; exact h6
theorem iF14.Tb.s256 {W : World} {g : Nat} {x y v : Value} (h : iF14.Tb W g x y v) (u : Value) : iF14.Tb (W.setCell ⟨g, 256, none⟩ u) g x y u := by
 obtain ⟨cs, h1, h2, h3, h4, h5, h6⟩ := h
 refine ⟨cs.set 256 u, iF14.Tb.put u h1, by simpa using h2, fun i a b c => ?_, ?_, ?_, ?_⟩
 ·
  rw [List.getElem?_set_ne (by omega)]; exact h3 i a b c
 ·
  rw [List.getElem?_set_ne (by omega)]; exact h4
 ·
  rw [List.getElem?_set_ne (by omega)]; exact h5
 rw [List.getElem?_set_self (by omega)]
theorem iF14.Tb.lt {W : World} {g : Nat} {x y v : Value} (h : iF14.Tb W g x y v) : g < W.heap.size := by
 obtain ⟨cs, h1, -⟩ := h
 exact blk_lt h1
theorem iF14.Tb.below {W W' : World} {g : Nat} {x y v : Value} (h : iF14.Tb W g x y v) (hb : Below W.heap.size W W') : iF14.Tb W' g x y v := by
 obtain ⟨cs, h1, h2⟩ := h
 exact ⟨cs, blk_below h1 hb, h2⟩
theorem iF14.Tb.far {W : World} {g k i : Nat} {x y v : Value} (h : iF14.Tb W g x y v) (u : Value) (hk : g ≠ k) : iF14.Tb (W.setCell ⟨k, i, none⟩ u) g x y v := by
 obtain ⟨cs, h1, h2⟩ := h
 exact ⟨cs, (Below.heap_setCell W ⟨k, i, none⟩ u g hk).trans h1, h2⟩
theorem iF14.made (W : World) : ∃ W1, (storeCells ⟨W.heap.size + 1, 0, none⟩ (Tryz.zeroCells126.toList.set 256 (.slice (some ⟨W.heap.size, 0, none⟩) 0 2))).run Tryz.prog ((W.alloc (.cells (madeCells #[.string ⟨#[]⟩] 2) 9)).alloc (.cells Tryz.zeroCells126 126)) = .ok () W1
  ∧ iF14.Tb W1 (W.heap.size + 1) (Value.slice none 0 0) (Value.slice none 0 0) (.slice (some ⟨W.heap.size, 0, none⟩) 0 2) ∧ W1.heap[W.heap.size]? = some (.cells (madeCells #[.string ⟨#[]⟩] 2) 9 (0, 0)) ∧ Below W.heap.size W W1 ∧ W1.heap.size = W.heap.size + 2 := by
 obtain ⟨V, hV⟩ : ∃ V, V = (W.alloc (.cells (madeCells #[.string ⟨#[]⟩] 2) 9)).alloc (.cells Tryz.zeroCells126 126) := ⟨_, rfl⟩
 have hs1 : (W.alloc (.cells (madeCells #[.string ⟨#[]⟩] 2) 9)).heap.size = W.heap.size + 1 := by simp
 have hg : V.heap[W.heap.size + 1]? = some (.cells Tryz.zeroCells126 126 (0, 0)) := by rw [hV, ← hs1]; exact blk_new _ _
 have hb : V.heap[W.heap.size]? = some (.cells (madeCells #[.string ⟨#[]⟩] 2) 9 (0, 0)) := by
  rw [hV]; exact blk_below (blk_new W _) (below_alloc (Below.refl _ _) _)
 have hB : Below W.heap.size W V := by rw [hV]; exact below_alloc (below_alloc (Below.refl _ _) _) _
 have hsz : V.heap.size = W.heap.size + 2 := by rw [hV]; simp
 rw [← hV]
 have hl : (Tryz.zeroCells126.toList.set 256 (.slice (some ⟨W.heap.size, 0, none⟩) 0 2)).length = 257 := by rw [List.length_set, iF14.zc, List.length_replicate]
 have hr := run_storeCells_from (P := Tryz.prog) (W.heap.size + 1) 126 (Tryz.zeroCells126.toList.set 256 (.slice (some ⟨W.heap.size, 0, none⟩) 0 2)) 0 Tryz.zeroCells126 V hg (by
  rw [hl, ← Array.length_toList, iF14.zc, List.length_replicate]) (fun v hv => by
  rcases List.mem_or_eq_of_mem_set hv with h | h
  ·
   rw [iF14.zc] at h
   rw [(List.mem_replicate.1 h).2]; rfl
  rw [h]; rfl)
 rw [List.take_zero, List.nil_append] at hr
 refine ⟨_, hr, ⟨_, setRow_heap V _ _ _ 126 (0, 0) hg, hl, fun i h0 h1 h2 => ?_, ?_, ?_, ?_⟩, ?_, ?_, by rw [setRow_size, hsz]⟩
 ·
  rw [List.getElem?_set_ne (by omega), iF14.zc, List.getElem?_replicate, if_pos (by omega)]
 ·
  rw [List.getElem?_set_ne (by omega), iF14.zc, List.getElem?_replicate, if_pos (by omega)]
 ·
  rw [List.getElem?_set_ne (by omega), iF14.zc, List.getElem?_replicate, if_pos (by omega)]
 ·
  rw [List.getElem?_set_self (by rw [iF14.zc, List.length_replicate]; omega)]
 ·
  rw [setRow_other V _ _ _ (by omega)]; exact hb
 exact ⟨hB.os, hB.tape, hB.output, by rw [setRow_size]; exact hB.size, fun k hk => by rw [setRow_other V _ _ _ (by omega)]; exact hB.block k hk⟩
theorem iF14.conv1 (w : World) (n : Int) (b : UInt8) (h : n = b.toNat) : (convert 66 9 (.slice (some ⟨w.heap.size, 0, none⟩) 1 1)).run Tryz.prog (w.alloc (.cells #[.int .u8 n] 5)) = .ok (.string ⟨#[b]⟩) (w.alloc (.cells #[.int .u8 n] 5)) := by
 subst h
 refine run_convert_bytes_back (w.alloc (.cells #[.int .u8 b.toNat] 5)) 66 9 5 ⟨w.heap.size, 0, none⟩ 1 [b] Tryz.underlying66 Tryz.underlying5 Tryz.underlying9 ?_
 intro j hj
 obtain rfl : j = 0 := by simpa using hj
 simp [Addr.add]
theorem iF14.Tb.grown {W W' : World} {g : Nat} {x y v : Value} {row : Option Nat} (h : iF14.Tb W g x y v) (hg : W.grownBy W' row) (hr : row ≠ some g) : iF14.Tb W' g x y v := by
 obtain ⟨cs, h1, h2⟩ := h
 exact ⟨cs, blk_grown h1 hg (fun e => hr e.symm), h2⟩
theorem iF14.rowMade (V W1 : World) (g : Nat) (hr : W1.heap[V.heap.size]? = some (.cells (madeCells #[.string ⟨#[]⟩] 2) 9 (0, 0))) (hs : W1.heap.size = V.heap.size + 2) (hg : g = V.heap.size + 1) (b : Nat) (hb : b ≤ V.heap.size) :
  Kd.R Kd.string 9 W1 b (fun k => k ≠ g) (.slice (some ⟨V.heap.size, 0, none⟩) 0 2) [] := by
 have h := World.ownsRow_made (V) (e := 9) (size := 1) (base := b) (madeCells #[.string ⟨#[]⟩] 2) 2 hb (by decide) (size_madeCells _ _)
 have h2 : Kd.R Kd.string 9 (V.alloc (.cells (madeCells #[.string ⟨#[]⟩] 2) 9)) b (fun k => k = V.heap.size) (.slice (some ⟨V.heap.size, 0, none⟩) 0 2) [] := Kd.R_of_own h (fun k hk => by simpa [Value.ownBlock, eq_comm] using hk)
 have h3 : Kd.R Kd.string 9 W1 b (fun k => k = V.heap.size) (.slice (some ⟨V.heap.size, 0, none⟩) 0 2) [] := Kd.R_move h2 (fun k hk => by subst hk; rw [hr, blk_new])
 exact Kd.R_mono h3 (fun k hk => by omega)
set_option maxHeartbeats 1600000 in
theorem iF14.build (c d cap : Nat) (hcap : 4 ≤ cap) (w : World) (h4 : w.cell? ⟨c, 4, none⟩ = some (.slice (some ⟨d, 0, none⟩) 4 cap))
  (d0 : w.cell? ⟨d, 0, none⟩ = some (.string ⟨#[63]⟩)) (d1 : w.cell? ⟨d, 1, none⟩ = some (.string ⟨#[]⟩)) (d2 : w.cell? ⟨d, 2, none⟩ = some (.string ⟨#[42]⟩)) (d3 : w.cell? ⟨d, 3, none⟩ = some (.string ⟨#[]⟩)) (hdw : d < w.heap.size) :
  Calls Tryz.prog 75 #[.pointer (some ⟨c, 0, none⟩)] w fun e w' => ∃ g, e = .returned (.iface 127 (.pointer (some ⟨g, 0, none⟩))) ∧ w.heap.size ≤ g ∧ ∃ p q p2 q2 A c2, iF14.Tb w' g (.slice (some p) 0 q) (.slice (some p2) 0 q2) (.slice A 2 c2) ∧ Below w.heap.size w w' := by
 have hms := iF14.makeS
 have hsb : ∀ W : World, (convert 9 66 (.string ⟨#[]⟩)).run Tryz.prog W = .ok (.slice (some ⟨W.heap.size, 0, none⟩) 0 (grownCap W 0 0 5)) (W.drew.alloc (.cells (bytesRow ⟨#[]⟩ (grownCap W 0 0 5)) 5 ((bytesRow ⟨#[]⟩ (grownCap W 0 0 5)).size, (bytesRow ⟨#[]⟩ (grownCap W 0 0 5)).size + 1))) := fun W => run_bytes_of_string W 9 66 5 ⟨#[]⟩ Tryz.underlying9 Tryz.underlying66 Tryz.underlying5
 have heq : ∀ W : World, (binOp .eql 66 (.slice none 0 0) (.slice none 0 0)).run Tryz.prog W = .ok (.bool true) W := fun W => run_eql_nil_slice W 66 5 none 0 0 0 0 Tryz.underlying66
 go_enter Tryz.func75, Tryz.ntmps75
 go_wp2_with fail
 go_loopg [4, 5] 2 (fun gg v4 v5 w' => ((gg = 2 ∧ v4 = .bool true ∧ v5 = .int .i64 0) ∨ (gg = 1 ∧ v4 = .bool false ∧ v5 = .int .i64 2) ∨ (gg = 0 ∧ v4 = .bool false ∧ v5 = .int .i64 4)) ∧ Drawn0 w w')
 case atStart => exact ⟨.inl ⟨rfl, rfl, rfl⟩, by repeat (first | exact Drawn0.refl _ | apply Drawn0.step)⟩
 obtain ⟨(⟨rfl, rfl, rfl⟩ | ⟨rfl, rfl, rfl⟩ | ⟨rfl, rfl, rfl⟩), hdr⟩ := hrel
 ·
  obtain ⟨m1, rfl⟩ := hdr
  go_wp2_with fail
  go_roundg 1
  case measure => omega
  case rel => exact ⟨.inr (.inl ⟨rfl, rfl, rfl⟩), by repeat (first | exact Drawn0.refl _ | apply Drawn0.step)⟩
 ·
  obtain ⟨m1, rfl⟩ := hdr
  go_wp2_with fail
  go_roundg 0
  case measure => omega
  case rel => exact ⟨.inr (.inr ⟨rfl, rfl, rfl⟩), by repeat (first | exact Drawn0.refl _ | apply Drawn0.step)⟩
 have HB0 := Aside0.mk hdr.below
 have e0 := (HB0.out.cell (p := ⟨d, 0, none⟩) hdw).trans d0
 have e1 := (HB0.out.cell (p := ⟨d, 1, none⟩) hdw).trans d1
 have e2 := (HB0.out.cell (p := ⟨d, 2, none⟩) hdw).trans d2
 have e3 := (HB0.out.cell (p := ⟨d, 3, none⟩) hdw).trans d3
 have hsz0 := Aside0.mk HB0.out.size
 have HE := Aside0.mk (And.intro e0 (And.intro e1 (And.intro e2 e3)))
 have HD := Aside0.mk hdw
 clear e0 e1 e2 e3
 obtain ⟨W1, hst, hTb, hRow, hBel, hSz⟩ := iF14.made wr
 have HT := Aside0.mk hTb
 have HRw := Aside0.mk hRow
 have HBl := Aside0.mk hBel
 have HSz := Aside0.mk hSz
 clear hTb
 have HB1 := Aside0.mk (show Below w.heap.size w W1 from hdr.below.trans (hBel.mono hdr.below.size))
 have HB2 : ∀ w', Below w.heap.size w w' → w'.cell? ⟨d, 0, none⟩ = some (.string ⟨#[63]⟩) ∧ w'.cell? ⟨d, 1, none⟩ = some (.string ⟨#[]⟩) ∧ w'.cell? ⟨d, 2, none⟩ = some (.string ⟨#[42]⟩) ∧ w'.cell? ⟨d, 3, none⟩ = some (.string ⟨#[]⟩) := fun w' hb => ⟨(hb.cell (p := ⟨d, 0, none⟩) hdw).trans d0, (hb.cell (p := ⟨d, 1, none⟩) hdw).trans d1, (hb.cell (p := ⟨d, 2, none⟩) hdw).trans d2, (hb.cell (p := ⟨d, 3, none⟩) hdw).trans d3⟩
 clear hBel d0 d1 d2 d3 h4 hdr
 obtain ⟨g, hg⟩ : ∃ g, g = wr.heap.size + 1 := ⟨_, rfl⟩
 have HG := Aside0.mk hg
 have HGW := Aside0.mk (show w.heap.size ≤ g from by have := hsz0.out; omega)
 rw [← hg] at HT
 have HO := Aside0.mk (iF14.rowMade wr W1 g hRow hSz hg w.heap.size hsz0.out)
 clear hRow hSz
 go_wp2_with fail
 rw [← hg]
 clear hst hg
 go_loopg [12] 2 (fun gg v12 w' => ∃ (x y v : Value) (xs : List ByteArray), Aside0 (iF14.Tb w' g x y v) ∧ Aside0 (Kd.R Kd.string 9 w' w.heap.size (fun k => k ≠ g) v xs) ∧ Aside0 (Below w.heap.size w w') ∧ ((gg = 2 ∧ v12 = .int .i64 2 ∧ x = (Value.slice none 0 0) ∧ y = (Value.slice none 0 0) ∧ xs.length = 0) ∨ (gg = 1 ∧ v12 = .int .i64 0 ∧ y = (Value.slice none 0 0) ∧ (∃ p q, x = .slice (some p) 0 q) ∧ xs.length = 1) ∨ (gg = 0 ∧ v12 = .int .i64 (-2) ∧ (∃ p q, x = .slice (some p) 0 q) ∧ (∃ p q, y = .slice (some p) 0 q) ∧ xs.length = 2)))
 case atStart => exact ⟨_, _, _, _, HT, HO, HB1, .inl ⟨rfl, rfl, rfl, rfl, rfl⟩⟩
 clear HT HO
 obtain ⟨x, y, v, xs, HT, HO, HB, (⟨rfl, rfl, rfl, rfl, hx⟩ | ⟨rfl, rfl, rfl, ⟨p, q, rfl⟩, hx⟩ | ⟨rfl, rfl, ⟨p, q, rfl⟩, ⟨p2, q2, rfl⟩, hx⟩)⟩ := hrel
 ·
  have h42 : ∀ h, ((⟨#[42]⟩ : ByteArray)[0]'h).toNat = 42 := fun _ => rfl
  have f0 := (HB2 _ HB.out).1
  have f1 := (HB2 _ HB.out).2.1
  have f2 := (HB2 _ HB.out).2.2.1
  have f3 := (HB2 _ HB.out).2.2.2
  have t42 := HT.out.c42
  have t256 := HT.out.c256
  have hcv : (convert 66 9 (.slice (some ⟨wr.heap.size, 0, none⟩) 1 1)).run Tryz.prog (wr.alloc (.cells #[.int .u8 42] 5)) = .ok (.string ⟨#[42]⟩) (wr.alloc (.cells #[.int .u8 42] 5)) := iF14.conv1 wr 42 42 rfl
  go_wp2_with (first | ((with_reducible refine gate_builtin (b := .append) (xs := #[.tmp 119, .tmp 123]) rfl ?_); at_builtin; refine Kd.R_append Kd.string (W := wr.alloc (.cells #[.int .u8 42] 5)) (w0 := w) w.heap.size rfl (.tmp 119) (.tmp 123) 26 9 (.string ⟨#[]⟩) 16 rfl Tryz.underlying26 iF14.info9 rfl (by decide) (by omega) v xs (⟨#[42]⟩ : ByteArray) [.string (⟨#[42]⟩ : ByteArray)] (fun k => k ≠ g) (fun _ => False) rfl (by go_simp) ?aP (fun _ hk => hk.elim) ?aF ?aO ?aB ?aS ?aL ?_; (case aP => exact rfl); (case aB => exact HB.out.alloc HB.out.size _); (case aF => exact fun k hk => (by have h9 := HT.out.lt; simp at hk; omega)); (case aO => exact Kd.R_alloc HO.out _); (case aS => exact (HB.out.alloc HB.out.size _).size); (case aL => rw [hx]; decide); intro v1 w1 ho hb hg1 hat; obtain ⟨A1, c1, e1⟩ := Kd.R_slice ho; subst e1; have hl9 : (xs ++ [(⟨#[42]⟩ : ByteArray)]).length = 1 := (by rw [List.length_append, hx]; rfl); rw [hl9] at ho; clear hl9; have n0_ := Aside0.mk (iF14.Tb.grown (HT.out.below (below_alloc (Below.refl _ _) _)) hg1 (fun e => HO.out.1 g e rfl)); have n1_ := Aside0.mk ho; have n2_ := Aside0.mk hb; clear HT HO HB t42 t256 hg1 hat ho hb; have HT := n0_; have HO := n1_; have HB := n2_; clear n0_ n1_ n2_; have hgl := HT.out.lt; have t42 := HT.out.c42; have u42 := HT.out.fro 42; have t256 := HT.out.c256; have u256 := HT.out.fro 256))
  go_roundg 1
  case measure => omega
  case rel => exact ⟨_, _, _, xs ++ [⟨#[42]⟩], ⟨iF14.Tb.below ((HT.out.s256 _).s42 _) (below_drew1 (below_alloc (Below.refl _ _) _))⟩, ⟨Kd.R_drew (Kd.R_alloc (Kd.R_far (Kd.R_far HO.out (fun _ hk => hk) _) (fun _ hk => hk) _) _)⟩, ⟨below_drew1 (below_alloc (below_set (below_set HB.out HGW.out) HGW.out) _)⟩, .inr (.inl ⟨rfl, rfl, rfl, ⟨_, _, rfl⟩, by simp [hx]⟩)⟩
 ·
  have h63 : ∀ h, ((⟨#[63]⟩ : ByteArray)[0]'h).toNat = 63 := fun _ => rfl
  have f0 := (HB2 _ HB.out).1
  have f1 := (HB2 _ HB.out).2.1
  have f2 := (HB2 _ HB.out).2.2.1
  have f3 := (HB2 _ HB.out).2.2.2
  have t63 := HT.out.c63
  have t256 := HT.out.c256
  have hcv : (convert 66 9 (.slice (some ⟨wr.heap.size, 0, none⟩) 1 1)).run Tryz.prog (wr.alloc (.cells #[.int .u8 63] 5)) = .ok (.string ⟨#[63]⟩) (wr.alloc (.cells #[.int .u8 63] 5)) := iF14.conv1 wr 63 63 rfl
  go_wp2_with (first | ((with_reducible refine gate_builtin (b := .append) (xs := #[.tmp 119, .tmp 123]) rfl ?_); at_builtin; refine Kd.R_append Kd.string (W := wr.alloc (.cells #[.int .u8 63] 5)) (w0 := w) w.heap.size rfl (.tmp 119) (.tmp 123) 26 9 (.string ⟨#[]⟩) 16 rfl Tryz.underlying26 iF14.info9 rfl (by decide) (by omega) v xs (⟨#[63]⟩ : ByteArray) [.string (⟨#[63]⟩ : ByteArray)] (fun k => k ≠ g) (fun _ => False) rfl (by go_simp) ?aP (fun _ hk => hk.elim) ?aF ?aO ?aB ?aS ?aL ?_; (case aP => exact rfl); (case aB => exact HB.out.alloc HB.out.size _); (case aF => exact fun k hk => (by have h9 := HT.out.lt; simp at hk; omega)); (case aO => exact Kd.R_alloc HO.out _); (case aS => exact (HB.out.alloc HB.out.size _).size); (case aL => rw [hx]; decide); intro v1 w1 ho hb hg1 hat; obtain ⟨A1, c1, e1⟩ := Kd.R_slice ho; subst e1; have hl9 : (xs ++ [(⟨#[63]⟩ : ByteArray)]).length = 2 := (by rw [List.length_append, hx]; rfl); rw [hl9] at ho; clear hl9; have n0_ := Aside0.mk (iF14.Tb.grown (HT.out.below (below_alloc (Below.refl _ _) _)) hg1 (fun e => HO.out.1 g e rfl)); have n1_ := Aside0.mk ho; have n2_ := Aside0.mk hb; clear HT HO HB t63 t256 hg1 hat ho hb; have HT := n0_; have HO := n1_; have HB := n2_; clear n0_ n1_ n2_; have hgl := HT.out.lt; have t63 := HT.out.c63; have u63 := HT.out.fro 63; have t256 := HT.out.c256; have u256 := HT.out.fro 256))
  go_roundg 0
  case measure => omega
  case rel => exact ⟨_, _, _, xs ++ [⟨#[63]⟩], ⟨iF14.Tb.below ((HT.out.s256 _).s63 _) (below_drew1 (below_alloc (Below.refl _ _) _))⟩, ⟨Kd.R_drew (Kd.R_alloc (Kd.R_far (Kd.R_far HO.out (fun _ hk => hk) _) (fun _ hk => hk) _) _)⟩, ⟨below_drew1 (below_alloc (below_set (below_set HB.out HGW.out) HGW.out) _)⟩, .inr (.inr ⟨rfl, rfl, ⟨_, _, rfl⟩, ⟨_, _, rfl⟩, by simp [hx]⟩)⟩
 go_wp2_with fail
 go_ret
 obtain ⟨A1, c1, e1⟩ := Kd.R_slice HO.out
 subst e1
 rw [hx] at HT
 exact ⟨g, rfl, HGW.out, _, _, _, _, _, _, HT.out, HB.out⟩
theorem iF14.fro_below {B : Nat} {W W' : World} (h : Below B W W') {k i : Nat} (hk : k < B) : W'.frozen? ⟨k, i, none⟩ = W.frozen? ⟨k, i, none⟩ := by
 simp [World.frozen?, h.block k hk]
structure iF14.Rp (w : World) (c d cap : Nat) : Prop where
 hcap : 4 ≤ cap
 h3 : w.cell? ⟨c, 3, none⟩ = some .nilIface
 h4 : w.cell? ⟨c, 4, none⟩ = some (.slice (some ⟨d, 0, none⟩) 4 cap)
 d0 : w.cell? ⟨d, 0, none⟩ = some (.string ⟨#[63]⟩)
 d1 : w.cell? ⟨d, 1, none⟩ = some (.string ⟨#[]⟩)
 d2 : w.cell? ⟨d, 2, none⟩ = some (.string ⟨#[42]⟩)
 d3 : w.cell? ⟨d, 3, none⟩ = some (.string ⟨#[]⟩)
 hd : d < w.heap.size
 hc : c < w.heap.size
 hdc : d ≠ c
 fr : ∀ i, w.frozen? ⟨c, i, none⟩ = false
def iF14.Rd (w : World) (c : Nat) : Prop := ∃ g p q p2 q2 A c2, iF14.Tb w g (.slice (some p) 0 q) (.slice (some p2) 0 q2) (.slice A 2 c2) ∧ g ≠ c ∧ w.cell? ⟨c, 3, none⟩ = some (.iface 127 (.pointer (some ⟨g, 0, none⟩)))
theorem iF14.Rd.set {w : World} {c i : Nat} (h : iF14.Rd w c) (hi : i ≠ 3) (v : Value) : iF14.Rd (w.setCell ⟨c, i, none⟩ v) c := by
 obtain ⟨g, p, q, p2, q2, A, c2, hT, hg, h3⟩ := h
 exact ⟨g, p, q, p2, q2, A, c2, hT.far v hg, hg, (World.cell?_setCell_other _ ⟨c, i, none⟩ ⟨c, 3, none⟩ _ (fun e => hi (by injection e))).trans h3⟩
theorem iF14.Rd.drew {w : World} {c : Nat} (h : iF14.Rd w c) : iF14.Rd w.drew c := h
set_option maxHeartbeats 1600000 in
theorem iF14.buildOnce (w0 w : World) (c d cap : Nat) (HR : iF14.Rp w c d cap) (hB : Below w0.heap.size w0 w) (hc : w0.heap.size ≤ c) :
  Calls Tryz.prog 58 #[.pointer (some ⟨c, 0, none⟩)] w fun e w' => e = .returned (.tuple #[]) ∧ iF14.Rd w' c ∧ (∀ i, i < 3 → w'.cell? ⟨c, i, none⟩ = w.cell? ⟨c, i, none⟩) ∧ (∀ i, w'.frozen? ⟨c, i, none⟩ = w.frozen? ⟨c, i, none⟩) ∧ Below w0.heap.size w0 w' := by
 have hb := Aside0.mk (iF14.build c d cap HR.hcap w HR.h4 HR.d0 HR.d1 HR.d2 HR.d3 HR.hd)
 have hR := Aside0.mk HR
 have hBB := Aside0.mk hB
 have hC := Aside0.mk hc
 clear HR hB hc
 go_enter Tryz.func58, Tryz.ntmps58
 go_wp2_with (go_at_call 75; refine hb.out.mono ?_; rintro e w1 ⟨g, rfl, hgw, p, q, p2, q2, A, c2, hT, hB1⟩; have HT := Aside0.mk hT; have HB1 := Aside0.mk hB1; have HGW := Aside0.mk hgw; clear hT hB1 hgw hb; have h3 := (HB1.out.cell (p := ⟨c, 3, none⟩) hR.out.hc).trans hR.out.h3; have h4 := (HB1.out.cell (p := ⟨c, 4, none⟩) hR.out.hc).trans hR.out.h4; have f3 := (iF14.fro_below HB1.out (k := c) (i := 3) hR.out.hc).trans (hR.out.fr 3); have f4 := (iF14.fro_below HB1.out (k := c) (i := 4) hR.out.hc).trans (hR.out.fr 4))
 go_end0
 have hgc : g ≠ c := by have h1 := HGW.out; have h2 := hR.out.hc; omega
 refine ⟨rfl, ⟨g, p, q, p2, q2, A, c2, (HT.out.far _ hgc).far _ hgc, hgc, ?_⟩, fun i hi => ?_, fun i => ?_, ?_⟩
 ·
  exact (World.cell?_setCell_other _ ⟨c, 4, none⟩ ⟨c, 3, none⟩ _ (by simp)).trans (World.cell?_setCell_same _ _ _ h3)
 ·
  rw [World.cell?_setCell_other _ ⟨c, 4, none⟩ ⟨c, i, none⟩ _ (by simp <;> omega), World.cell?_setCell_other _ ⟨c, 3, none⟩ ⟨c, i, none⟩ _ (by simp <;> omega)]
  exact HB1.out.cell (p := ⟨c, i, none⟩) hR.out.hc
 ·
  rw [World.frozen?_setCell, World.frozen?_setCell]
  exact iF14.fro_below HB1.out hR.out.hc
 exact below_set (below_set (hBB.out.trans (HB1.out.mono hBB.out.size)) hC.out) hC.out
theorem iF14.Rp.set {w : World} {c d cap i : Nat} (h : iF14.Rp w c d cap) (hi : i < 3) (v : Value) : iF14.Rp (w.setCell ⟨c, i, none⟩ v) c d cap := by
 have hne : ∀ j, (⟨c, i, none⟩ : Addr) ≠ ⟨d, j, none⟩ := fun j e => h.hdc (by injection e with e1; exact e1.symm)
 exact ⟨h.hcap, (World.cell?_setCell_other _ ⟨c, i, none⟩ ⟨c, 3, none⟩ _ (by simp <;> omega)).trans h.h3, (World.cell?_setCell_other _ ⟨c, i, none⟩ ⟨c, 4, none⟩ _ (by simp <;> omega)).trans h.h4, (World.cell?_setCell_other _ _ _ _ (fun e => hne 0 e)).trans h.d0, (World.cell?_setCell_other _ _ _ _ (fun e => hne 1 e)).trans h.d1, (World.cell?_setCell_other _ _ _ _ (fun e => hne 2 e)).trans h.d2, (World.cell?_setCell_other _ _ _ _ (fun e => hne 3 e)).trans h.d3, by simpa using h.hd, by simpa using h.hc, h.hdc, fun j => by rw [World.frozen?_setCell]; exact h.fr j⟩
set_option maxHeartbeats 1600000 in
theorem iF14.doSlow (w0 w : World) (c d cap : Nat) (HR : iF14.Rp w c d cap) (h0 : w.cell? ⟨c, 0, none⟩ = some (.int .u32 0)) (h1 : w.cell? ⟨c, 1, none⟩ = some (.int .i32 0)) (hB : Below w0.heap.size w0 w) (hc : w0.heap.size ≤ c) :
  Calls Tryz.prog 74 #[.pointer (some ⟨c, 0, none⟩), .func (.func 58) #[.pointer (some ⟨c, 0, none⟩)] #[]] w fun e w' => e = .returned (.tuple #[]) ∧ iF14.Rd w' c ∧ Below w0.heap.size w0 w' := by
 have hl := run_call_load (P := Tryz.prog) Tryz.func83 (by kernel_rfl) (by kernel_rfl) (by kernel_rfl) .u32 (by kernel_rfl) (w := w.setCell ⟨c, 1, none⟩ (.int .i32 1)) (a := ⟨c, 0, none⟩) (x := 0) ((World.cell?_setCell_other _ ⟨c, 1, none⟩ ⟨c, 0, none⟩ _ (by simp)).trans h0)
 have hnot : ∀ (x : Bool) (w : World), (Op.unary .not (.bool x)).run Tryz.prog w = .ok (.bool (!x)) w := fun _ _ => rfl
 have hbo := Aside0.mk (iF14.buildOnce w0 (w.setCell ⟨c, 1, none⟩ (.int .i32 1)) c d cap (HR.set (by omega) _) (below_set hB hc) hc)
 have hf0 := HR.fr 0
 have hf1 := HR.fr 1
 have k0 : (w.setCell ⟨c, 1, none⟩ (.int .i32 1)).cell? ⟨c, 0, none⟩ = some (.int .u32 0) := (World.cell?_setCell_other _ ⟨c, 1, none⟩ ⟨c, 0, none⟩ _ (by simp)).trans h0
 have k1 : (w.setCell ⟨c, 1, none⟩ (.int .i32 1)).cell? ⟨c, 1, none⟩ = some (.int .i32 1) := World.cell?_setCell_same _ _ _ h1
 have KF := Aside0.mk HR.fr
 have K0 := Aside0.mk k0
 have K1 := Aside0.mk k1
 clear HR hB k0 k1
 go_enter_defers Tryz.func74, Tryz.ntmps74
 go_wp2_with (first | (go_at_call 84; refine (iF14.lock_free ⟨c, 1, none⟩ _ (by go_simp) (by go_simp)).mono ?_; rintro e w' ⟨rfl, rfl⟩) | (go_at_call 58; refine hbo.out.mono ?_; rintro e w2 ⟨rfl, hRd, hcl, hfr, hB2⟩; have HRd := Aside0.mk hRd; have HCL := Aside0.mk hcl; have HFR := Aside0.mk hfr; have HB2 := Aside0.mk hB2; clear hRd hcl hfr hB2) | (go_at_call 73; go_in))
 have c0 : w2.cell? ⟨c, 0, none⟩ = some (.int .u32 0) := (HCL.out 0 (by omega)).trans K0.out
 have c1 : w2.cell? ⟨c, 1, none⟩ = some (.int .i32 1) := (HCL.out 1 (by omega)).trans K1.out
 have z : ∀ i, w2.frozen? ⟨c, i, none⟩ = false := fun i => (HFR.out i).trans (by rw [World.frozen?_setCell]; exact KF.out i)
 refine leaves_cons (f := 86) (args := #[.pointer (some ⟨c, 0, none⟩), .bool true]) (by simp) (by simp [go_sem]) ?_
 refine (iF14.store_deferred ⟨c, 0, none⟩ (.int .u32 0) .returning _ ?_ (by simp [z])).mono ?_
 ·
  simpa using c0
 rintro e u' w'' ⟨rfl, rfl, rfl⟩
 refine leaves_cons (f := 85) (args := #[.pointer (some ⟨c, 1, none⟩)]) (by simp [settle]) (by simp [go_sem]) ?_
 refine (iF14.unlock_deferred ⟨c, 1, none⟩ _ _ ?_ (by simp [z])).mono ?_
 ·
  refine (World.cell?_setCell_other _ ⟨c, 0, none⟩ ⟨c, 1, none⟩ _ (by simp)).trans ?_
  simpa using c1
 rintro e u' w'' ⟨rfl, rfl, rfl⟩
 have hfin : iF14.Rd ((w2.drew.setCell ⟨c, 0, none⟩ (.int .u32 1)).setCell ⟨c, 1, none⟩ (.int .i32 0)) c ∧ Below w0.heap.size w0 ((w2.drew.setCell ⟨c, 0, none⟩ (.int .u32 1)).setCell ⟨c, 1, none⟩ (.int .i32 0)) := ⟨(HRd.out.drew.set (by omega) _).set (by omega) _, below_set (below_set (below_drew1 HB2.out) hc) hc⟩
 simp [Leaves, settle, results, Tryz.results74]
 simpa using hfin
set_option maxHeartbeats 1600000 in
theorem iF14.onceDo (w0 w : World) (c d cap : Nat) (HR : iF14.Rp w c d cap) (h0 : w.cell? ⟨c, 0, none⟩ = some (.int .u32 0)) (h1 : w.cell? ⟨c, 1, none⟩ = some (.int .i32 0)) (hB : Below w0.heap.size w0 w) (hc : w0.heap.size ≤ c) :
  Calls Tryz.prog 57 #[.pointer (some ⟨c, 0, none⟩), .func (.func 58) #[.pointer (some ⟨c, 0, none⟩)] #[]] w fun e w' => e = .returned (.tuple #[]) ∧ iF14.Rd w' c ∧ Below w0.heap.size w0 w' := by
 have hl := run_call_load (P := Tryz.prog) Tryz.func83 (by kernel_rfl) (by kernel_rfl) (by kernel_rfl) .u32 (by kernel_rfl) h0
 have hnot : ∀ (x : Bool) (w : World), (Op.unary .not (.bool x)).run Tryz.prog w = .ok (.bool (!x)) w := fun _ _ => rfl
 have hsl := Aside0.mk (iF14.doSlow w0 w c d cap HR h0 h1 hB hc)
 clear HR hB h1
 go_enter Tryz.func57, Tryz.ntmps57
 go_wp2_with (first | (go_at_call 74; refine hsl.out.mono ?_; rintro e w2 ⟨rfl, hRd, hB2⟩; have HRd := Aside0.mk hRd; have HB2 := Aside0.mk hB2; clear hRd hB2) | (go_at_call 73; go_in))
 go_end0
 exact ⟨rfl, HRd.out, HB2.out⟩
def iF14.olds : List ByteArray := [⟨#[63]⟩, ⟨#[]⟩, ⟨#[42]⟩, ⟨#[]⟩]
set_option maxHeartbeats 1600000 in
theorem iF14.newR (a cap0 : Nat) (w : World) (hC : Kd.C Kd.string w (some ⟨a, 0, none⟩) 4 iF14.olds) :
  Calls Tryz.prog 41 #[.slice (some ⟨a, 0, none⟩) 4 cap0] w fun e w' => ∃ c d cap, e = .returned (.pointer (some ⟨c, 0, none⟩)) ∧ w.heap.size ≤ c ∧ iF14.Rp w' c d cap ∧ w'.cell? ⟨c, 0, none⟩ = some (.int .u32 0) ∧ w'.cell? ⟨c, 1, none⟩ = some (.int .i32 0) ∧ Below w.heap.size w w' := by
 have HC := Aside0.mk hC
 clear hC
 go_enter Tryz.func41, Tryz.ntmps41
 go_wp2_with (first | ((with_reducible refine gate_builtin (b := .append) (xs := #[.const (.slice none 0 0), .tmp 8]) rfl ?_); at_builtin; refine Kd.R_append_rows Kd.string (W := w) (w0 := w) w.heap.size rfl (.const (.slice none 0 0)) (.tmp 8) 26 9 (.string ⟨#[]⟩) 16 rfl Tryz.underlying26 iF14.info9 rfl (by decide) (by omega) (.slice none 0 0) [] iF14.olds (some ⟨a, 0, none⟩) 4 cap0 (fun _ => True) (fun _ => False) rfl rfl (Kd.R_nil _ _ _ _ _) HC.out (fun _ _ h => h) (fun _ hk => hk.elim) (fun _ _ => trivial) (Below.refl _ _) (Nat.le_refl _) (by decide) ?_; intro v1 w1 ho hb hg1 hat; obtain ⟨A1, c1, e1⟩ := Kd.R_slice ho; subst e1; have HO := Aside0.mk ho; have HB := Aside0.mk hb; clear ho hb hg1 hat))
 go_ret
 have HO2 : Kd.string.R 9 w1 w.heap.size (fun _ => True) (.slice A1 4 c1) iF14.olds := HO.out
 obtain ⟨d, c2, e2, hd1, hd2, -⟩ := Kd.R_form HO2 (by decide)
 injection e2 with e3 e4 e5
 subst e3
 obtain ⟨-, hcap, hC1⟩ := Kd.R_reads' HO2
 have hne : d ≠ w1.heap.size := by omega
 have hcl : ∀ (i : Int), 0 ≤ i → i < 4 → (w1.alloc (.cells #[.int .u32 0, .int .i32 0, .int .u32 0, .nilIface, .slice (some ⟨d, 0, none⟩) 4 c1] 91)).cell? ⟨d, i.toNat, none⟩ = some (.string (rdOf ByteArray.empty iF14.olds i)) := fun i h0 h1 => by
  obtain ⟨ad, e, hx⟩ := Kd.at_string hC1 i h0 (by exact h1)
  cases e
  rw [World.cell?_alloc_past _ _ _ hd2]
  have hadd : (⟨d, 0, none⟩ : Addr).add i.toNat = ⟨d, i.toNat, none⟩ := by unfold Addr.add; split <;> simp_all
  rw [hadd] at hx
  exact hx
 refine ⟨w1.heap.size, d, c1, rfl, HB.out.size, ⟨hcap, ?_, ?_, hcl 0 (by omega) (by omega), hcl 1 (by omega) (by omega), hcl 2 (by omega) (by omega), hcl 3 (by omega) (by omega), ?_, ?_, hne, ?_⟩, ?_, ?_, below_alloc HB.out _⟩
 ·
  rw [World.cell?_alloc_at _ _ _ _ rfl]; rfl
 ·
  rw [World.cell?_alloc_at _ _ _ _ rfl]; rfl
 ·
  simp; omega
 ·
  simp
 ·
  intro i; rw [World.frozen?_alloc_at _ _ _ _ rfl]
 ·
  rw [World.cell?_alloc_at _ _ _ _ rfl]; rfl
 rw [World.cell?_alloc_at _ _ _ _ rfl]; rfl
theorem iF14.w64 {x : Int} (h0 : -9223372036854775808 ≤ x) (h1 : x ≤ 9223372036854775807) : wrap64 x = x := by unfold wrap64; omega
def iF14.keep (b : UInt8) : Bool := b != 42 && b != 63
def iF14.kl (a : ByteArray) (n : Nat) : List UInt8 := (a.data.toList.take n).filter iF14.keep
def iF14.strip (a : ByteArray) : ByteArray := ⟨(a.data.toList.filter iF14.keep).toArray⟩
theorem iF14.kl_le (a : ByteArray) (n : Nat) (h : n ≤ a.size) : (iF14.kl a n).length ≤ n := by
 refine Nat.le_trans (List.length_filter_le _ _) ?_
 rw [List.length_take]; omega
theorem iF14.kl_succ (a : ByteArray) (n : Nat) (h : n < a.size) : iF14.kl a (n + 1) = iF14.kl a n ++ (if iF14.keep a[n] = true then [a[n]] else []) := by
 unfold iF14.kl
 have hl : n < a.data.toList.length := by simpa using h
 rw [List.take_succ_eq_append_getElem hl, List.filter_append]
 congr 1
 have e : a.data.toList[n] = a[n] := by simp [ByteArray.getElem_eq_getElem_data]
 rw [e, List.filter_cons, List.filter_nil]
theorem iF14.keep_bt (a : ByteArray) (n : Nat) (h : n < a.size) : (iF14.keep a[n] = true ↔ bt a (n : Int) ≠ 42 ∧ bt a (n : Int) ≠ 63) ∧ 0 ≤ bt a (n : Int) ∧ bt a (n : Int) < 256 ∧ bt a (n : Int) = (a[n].toNat : Int) := by
 have h2 : ((n : Int).toNat) < a.size := by simpa using h
 have e : bt a (n : Int) = (a[n].toNat : Int) := by rw [bt, dif_pos h2]; rfl
 have hlt := UInt8.toNat_lt a[n]
 refine ⟨?_, by omega, by omega, e⟩
 rw [e]
 unfold iF14.keep
 rw [Bool.and_eq_true, bne_iff_ne, bne_iff_ne]
 constructor
 ·
  rintro ⟨h1, h2⟩
  exact ⟨fun h => h1 (UInt8.toNat_inj.1 (by show a[n].toNat = 42; omega)), fun h => h2 (UInt8.toNat_inj.1 (by show a[n].toNat = 63; omega))⟩
 rintro ⟨h1, h2⟩
 exact ⟨fun h => h1 (by rw [h]; rfl), fun h => h2 (by rw [h]; rfl)⟩
theorem iF14.info5 : (Tryz.prog.info? 5).map (fun i => (i.zero, i.size, i.bytes)) = some (some (.int .u8 0), 1, 1) := by kernel_rfl
theorem iF14.makeB (L : Nat) (hL : L ≤ 100) (W : World) : (Instr.makeSlice 66 (.int .i64 (L : Int)) (.int .i64 (L : Int))).run Tryz.prog W = .ok (.slice (some ⟨W.heap.size, 0, none⟩) L L) (W.alloc (.cells (madeCells #[.int .u8 0] L) 5)) := by
 obtain ⟨i0, hi, hz0, hz1, hz2⟩ := info_parts iF14.info5
 have h := run_makeSlice (P := Tryz.prog) W 66 5 i0 _ Tryz.underlying66 hi hz0 .i64 .i64 (L : Int) (L : Int) (by omega) (by omega) (by rw [hz1, Int.toNat_natCast]; omega) (by rw [hz2]; omega) (by omega)
 rw [hz1, Int.toNat_natCast, Nat.mul_one] at h
 exact h
def iF14.Bf (W : World) (G : Nat) (cs : List Value) : Prop := W.heap[G]? = some (.cells cs.toArray 5 (0, 0))
theorem iF14.Bf.put {W : World} {G : Nat} {cs : List Value} (h : iF14.Bf W G cs) (i : Nat) (u : Value) : iF14.Bf (W.setCell ⟨G, i, none⟩ u) G (cs.set i u) := by
 unfold iF14.Bf at *
 rw [setCell_eq_setRow W G i _ 5 (0, 0) u h, setRow_heap W G _ _ 5 (0, 0) h]
 simp
theorem iF14.Bf.cell {W : World} {G : Nat} {cs : List Value} (h : iF14.Bf W G cs) (i : Nat) : W.cell? ⟨G, i, none⟩ = cs[i]? := by
 unfold iF14.Bf at h
 simp [World.cell?, h]
theorem iF14.Bf.fro {W : World} {G : Nat} {cs : List Value} (h : iF14.Bf W G cs) (i : Nat) : W.frozen? ⟨G, i, none⟩ = false := by
 unfold iF14.Bf at h
 simp [World.frozen?, h]
def iF14.cells (a : ByteArray) (L n : Nat) : List Value := (iF14.kl a n).map (fun b => Value.int .u8 (b.toNat : Int)) ++ List.replicate (L - (iF14.kl a n).length) (.int .u8 0)
theorem iF14.kl_mono (a : ByteArray) (n : Nat) (h : n < a.size) (hk : iF14.keep a[n] = true) : (iF14.kl a n).length < (iF14.kl a a.size).length := by
 have h1 := iF14.kl_succ a n h
 rw [if_pos hk] at h1
 have h2 : (iF14.kl a (n + 1)).length ≤ (iF14.kl a a.size).length := by
  unfold iF14.kl
  have e : a.data.toList.take (n + 1) = (a.data.toList.take a.size).take (n + 1) := by rw [List.take_take]; congr 1; omega
  rw [e]
  exact ((List.take_sublist _ _).filter _).length_le
 rw [h1, List.length_append, List.length_singleton] at h2
 omega
theorem iF14.cells_set (a : ByteArray) (n : Nat) (h : n < a.size) (hk : iF14.keep a[n] = true) : (iF14.cells a (iF14.kl a a.size).length n).set (iF14.kl a n).length (.int .u8 (a[n].toNat : Int)) = iF14.cells a (iF14.kl a a.size).length (n + 1) := by
 have h1 := iF14.kl_succ a n h
 have h2 := iF14.kl_mono a n h hk
 rw [if_pos hk] at h1
 unfold iF14.cells
 rw [h1, List.map_append, List.length_append, List.length_singleton, List.set_append_right _ _ (by simp), List.length_map, Nat.sub_self]
 obtain ⟨m, hm⟩ : ∃ m, (iF14.kl a a.size).length - (iF14.kl a n).length = m + 1 := ⟨_, (Nat.succ_pred_eq_of_pos (by omega)).symm⟩
 rw [hm, List.replicate_succ, List.set_cons_zero, show (iF14.kl a a.size).length - ((iF14.kl a n).length + 1) = m from by omega]
 simp
theorem iF14.strip_all (a : ByteArray) : iF14.strip a = ⟨(iF14.kl a a.size).toArray⟩ := by
 unfold iF14.strip iF14.kl
 rw [List.take_of_length_le (by simp)]
theorem iF14.strip_same (a : ByteArray) (h : ¬ (iF14.kl a a.size).length < a.size) : iF14.strip a = a := by
 rw [iF14.strip_all]
 unfold iF14.kl at *
 rw [List.take_of_length_le (by simp)] at *
 have hl : (a.data.toList.filter iF14.keep).length = a.data.toList.length := Nat.le_antisymm (List.length_filter_le _ _) (by simpa using h)
 rw [List.filter_eq_self.2 (List.length_filter_eq_length_iff.1 hl)]
theorem iF14.made0 (L : Nat) : madeCells #[(.int .u8 0 : Value)] L = (List.replicate L (Value.int .u8 0)).toArray := by
 unfold madeCells
 refine Array.ext (by simp) fun i h1 h2 => ?_
 simp [Nat.mod_one]
theorem iF14.kl_all (a : ByteArray) (n : Nat) : (iF14.kl a n).length ≤ (iF14.kl a a.size).length := by
 unfold iF14.kl
 have e : a.data.toList.take n = (a.data.toList.take a.size).take n := by rw [List.take_of_length_le (l := a.data.toList) (i := a.size) (by simp)]
 rw [e]
 exact ((List.take_sublist _ _).filter _).length_le
set_option maxHeartbeats 3200000 in
theorem iF14.bsr (g : Nat) (p : Addr) (q : Nat) (p2 : Addr) (q2 : Nat) (A : Option Addr) (c2 : Nat) (a0 : ByteArray) (ha : a0.size ≤ 14) (w : World) (hT : iF14.Tb w g (.slice (some p) 0 q) (.slice (some p2) 0 q2) (.slice A 2 c2)) :
  Calls Tryz.prog 173 #[.pointer (some ⟨g, 0, none⟩), .string a0] w fun e w' => e = .returned (.string (iF14.strip a0)) ∧ Below w.heap.size w w' := by
 have HT := Aside0.mk hT
 have HA := Aside0.mk ha
 have t256 := hT.c256
 have c16 : decide ((16 : Int) ≤ (a0.size : Int)) = false := dF_ (by omega)
 have c16n : decide (16 ≤ a0.size) = false := dF_ (by omega)
 clear hT ha
 go_enter Tryz.func173, Tryz.ntmps173
 go_wp2_with fail
 have HA2 := HA.out
 go_loopg [5, 6, 10] a0.size (fun gg v5 v6 v10 w' => ∃ nn : Nat, nn ≤ a0.size ∧ a0.size - nn ≤ gg ∧ v5 = .int .i64 ((a0.size - nn + (iF14.kl a0 nn).length : Nat)) ∧ v6 = .bool (decide ((iF14.kl a0 nn).length < nn)) ∧ v10 = .int .i64 nn ∧ Drawn0 w w')
 case atStart => exact ⟨0, Nat.zero_le _, by omega, by first | rfl | simp [iF14.kl], by first | rfl | simp [iF14.kl], rfl, by repeat (first | exact Drawn0.refl _ | apply Drawn0.step)⟩
 obtain ⟨nn, hnn, hg, rfl, rfl, rfl, ⟨nd, rfl⟩⟩ := hrel
 have hle := iF14.kl_le a0 nn hnn
 by_cases hlt : nn < a0.size
 ·
  have hkl := iF14.kl_succ a0 nn hlt
  have p0 : (0 ≤ (nn : Int)) = True := eq_true (by omega)
  have q0 : ((nn : Int) < (a0.size : Int)) = True := eq_true (by omega)
  have q0d : decide ((nn : Int) < (a0.size : Int)) = true := dT_ (by omega)
  have hwn : wrap64 ((nn : Int) + 1) = ((nn + 1 : Nat) : Int) := by rw [iF14.w64 (by omega) (by omega)]; omega
  have hb1 : ((a0[nn].toNat : Int) < 256) = True := eq_true (by have := UInt8.toNat_lt a0[nn]; omega)
  have hb2 : (a0[nn].toNat < 256) = True := eq_true (UInt8.toNat_lt a0[nn])
  have hb3 : (0 ≤ (a0[nn].toNat : Int)) = True := eq_true (by omega)
  by_cases hk : iF14.keep a0[nn] = true
  ·
   have hc : w.cell? ⟨g, a0[nn].toNat, none⟩ = some (.slice none 0 0) := by
    unfold iF14.keep at hk
    rw [Bool.and_eq_true, bne_iff_ne, bne_iff_ne] at hk
    exact HT.out.at _ (UInt8.toNat_lt _) (fun h => hk.1 (UInt8.toNat_inj.1 h)) (fun h => hk.2 (UInt8.toNat_inj.1 h))
   have hne : ∀ W : World, (binOp .neq 66 (.slice none 0 0) (.slice none 0 0)).run Tryz.prog W = .ok (.bool false) W := fun W => run_neq_slice_nil_any W 66 5 none 0 0 0 0 Tryz.underlying66
   rw [if_pos hk] at hkl
   go_wp2_with fail
   go_roundg (gk - 1)
   case measure => omega
   case rel => exact ⟨nn + 1, hlt, by omega, by rw [hkl, List.length_append, List.length_singleton]; congr 1; omega, by rw [hkl, List.length_append, List.length_singleton]; congr 1; rw [decide_eq_decide]; omega, by first | rfl | (congr 1; omega), by repeat (first | exact Drawn0.refl _ | apply Drawn0.step)⟩
  obtain ⟨pp, qq, hc⟩ : ∃ (pp : Addr) (qq : Nat), w.cell? ⟨g, a0[nn].toNat, none⟩ = some (.slice (some pp) 0 qq) := by
   by_cases h42 : a0[nn] = 42
   ·
    exact ⟨p, q, by rw [h42]; exact HT.out.c42⟩
   by_cases h63 : a0[nn] = 63
   ·
    exact ⟨p2, q2, by rw [h63]; exact HT.out.c63⟩
   exact absurd (by unfold iF14.keep; rw [Bool.and_eq_true, bne_iff_ne, bne_iff_ne]; exact ⟨h42, h63⟩) hk
  have hne : ∀ W : World, (binOp .neq 66 (.slice (some pp) 0 qq) (.slice none 0 0)).run Tryz.prog W = .ok (.bool true) W := fun W => run_neq_slice_nil_any W 66 5 (some pp) 0 qq 0 0 Tryz.underlying66
  rw [if_neg hk, List.append_nil] at hkl
  go_wp2_with fail
  go_roundg (gk - 1)
  case measure => omega
  case rel => exact ⟨nn + 1, hlt, by omega, by rw [hkl]; congr 1; omega, by rw [hkl]; congr 1; rw [decide_eq_true (by omega)], by first | rfl | (congr 1; omega), by repeat (first | exact Drawn0.refl _ | apply Drawn0.step)⟩
 have q0d : decide ((nn : Int) < (a0.size : Int)) = false := dF_ (by omega)
 have hnn' : nn = a0.size := by omega
 subst hnn'
 by_cases hall : (iF14.kl a0 a0.size).length < a0.size
 rotate_left
 ·
  have hd : decide ((iF14.kl a0 a0.size).length < a0.size) = false := dF_ hall
  go_wp2_with fail
  go_ret
  exact ⟨by rw [iF14.strip_same a0 hall]; rfl, (Drawn0.below ⟨nd, rfl⟩)⟩
 have hd : decide ((iF14.kl a0 a0.size).length < a0.size) = true := dT_ hall
 have hms := iF14.makeB (iF14.kl a0 a0.size).length (by omega)
 go_wp2_with fail
 simp only [Nat.sub_self, Nat.zero_add, hd]
 go_loopg [13, 14] a0.size (fun gg v13 v14 w' => ∃ nn : Nat, nn ≤ a0.size ∧ a0.size - nn ≤ gg ∧ v13 = .int .i64 (((iF14.kl a0 nn).length : Nat) : Int) ∧ v14 = .int .i64 nn ∧ Aside0 (iF14.Bf w' w.heap.size (iF14.cells a0 (iF14.kl a0 a0.size).length nn)) ∧ Aside0 (iF14.Tb w' g (.slice (some p) 0 q) (.slice (some p2) 0 q2) (.slice A 2 c2)) ∧ Aside0 (Below w.heap.size w w'))
 case atStart =>
  refine ⟨0, Nat.zero_le _, by omega, by simp [iF14.kl], rfl, ⟨?_⟩, ⟨HT.out.below (below_alloc (Drawn0.below ⟨nd, rfl⟩) _)⟩, ⟨below_alloc (Drawn0.below ⟨nd, rfl⟩) _⟩⟩
  have e := blk_new (w.drewN nd) (.cells (madeCells #[.int .u8 0] (iF14.kl a0 a0.size).length) 5)
  rw [iF14.made0] at e
  unfold iF14.cells
  rw [show iF14.kl a0 0 = [] from by simp [iF14.kl], List.map_nil, List.nil_append]
  unfold iF14.Bf
  rw [iF14.made0]
  exact e
 obtain ⟨nn, hnn, hg, rfl, rfl, HBf, HT2, HB⟩ := hrel
 have hgl := HT.out.lt
 by_cases hlt : nn < a0.size
 rotate_left
 ·
  have q0d : decide ((nn : Int) < (a0.size : Int)) = false := dF_ (by omega)
  have hnn' : nn = a0.size := by omega
  subst hnn'
  have hcv : (convert 66 9 (.slice (some ⟨w.heap.size, 0, none⟩) (iF14.kl a0 a0.size).length (iF14.kl a0 a0.size).length)).run Tryz.prog wr = .ok (.string (iF14.strip a0)) wr := by
   rw [iF14.strip_all]
   refine run_convert_bytes_back wr 66 9 5 ⟨w.heap.size, 0, none⟩ (iF14.kl a0 a0.size).length (iF14.kl a0 a0.size) Tryz.underlying66 Tryz.underlying5 Tryz.underlying9 (fun j hj => ?_)
   have hadd : (⟨w.heap.size, 0, none⟩ : Addr).add j = ⟨w.heap.size, j, none⟩ := by unfold Addr.add; split <;> simp_all
   rw [hadd, HBf.out.cell]
   unfold iF14.cells
   rw [List.getElem?_append_left (by simpa using hj)]
   simp [hj]
  go_wp2_with fail
  go_ret
  exact ⟨rfl, by repeat (first | exact HB.out | apply pw_below_drewN)⟩
 have hkl := iF14.kl_succ a0 nn hlt
 have p0 : (0 ≤ (nn : Int)) = True := eq_true (by omega)
 have q0 : ((nn : Int) < (a0.size : Int)) = True := eq_true (by omega)
 have q0d : decide ((nn : Int) < (a0.size : Int)) = true := dT_ (by omega)
 have hb1 : ((a0[nn].toNat : Int) < 256) = True := eq_true (by have := UInt8.toNat_lt a0[nn]; omega)
 have hb2 : (a0[nn].toNat < 256) = True := eq_true (UInt8.toNat_lt a0[nn])
 have hb3 : (0 ≤ (a0[nn].toNat : Int)) = True := eq_true (by omega)
 by_cases hk : iF14.keep a0[nn] = true
 ·
  have hc : wr.cell? ⟨g, a0[nn].toNat, none⟩ = some (.slice none 0 0) := by
   unfold iF14.keep at hk
   rw [Bool.and_eq_true, bne_iff_ne, bne_iff_ne] at hk
   exact HT2.out.at _ (UInt8.toNat_lt _) (fun h => hk.1 (UInt8.toNat_inj.1 h)) (fun h => hk.2 (UInt8.toNat_inj.1 h))
  have hne : ∀ W : World, (binOp .neq 66 (.slice none 0 0) (.slice none 0 0)).run Tryz.prog W = .ok (.bool false) W := fun W => run_neq_slice_nil_any W 66 5 none 0 0 0 0 Tryz.underlying66
  have hm := iF14.kl_mono a0 nn hlt hk
  have hset := iF14.cells_set a0 nn hlt hk
  rw [if_pos hk] at hkl
  have hcl : wr.cell? ⟨w.heap.size, (iF14.kl a0 nn).length, none⟩ = some (.int .u8 0) := by
   rw [HBf.out.cell]
   unfold iF14.cells
   rw [List.getElem?_append_right (by simp), List.length_map, Nat.sub_self, List.getElem?_replicate, if_pos (by omega)]
  have hfl := HBf.out.fro (iF14.kl a0 nn).length
  have hm1 : ((iF14.kl a0 nn).length < (iF14.kl a0 a0.size).length) = True := eq_true hm
  have hm2 : (((iF14.kl a0 nn).length : Int) < ((iF14.kl a0 a0.size).length : Int)) = True := eq_true (by omega)
  have hm3 : (0 ≤ ((iF14.kl a0 nn).length : Int)) = True := eq_true (by omega)
  go_wp2_with fail
  go_roundg (gk - 1)
  case measure => omega
  case rel => exact ⟨nn + 1, hlt, by omega, by rw [hkl, List.length_append, List.length_singleton]; first | rfl | (congr 1; omega), by first | rfl | (congr 1; omega), ⟨by rw [← hset]; exact HBf.out.put _ _⟩, ⟨HT2.out.far _ (by omega)⟩, ⟨below_set HB.out (Nat.le_refl _)⟩⟩
 obtain ⟨pp, qq, hc⟩ : ∃ (pp : Addr) (qq : Nat), wr.cell? ⟨g, a0[nn].toNat, none⟩ = some (.slice (some pp) 0 qq) := by
  by_cases h42 : a0[nn] = 42
  ·
   exact ⟨p, q, by rw [h42]; exact HT2.out.c42⟩
  by_cases h63 : a0[nn] = 63
  ·
   exact ⟨p2, q2, by rw [h63]; exact HT2.out.c63⟩
  exact absurd (by unfold iF14.keep; rw [Bool.and_eq_true, bne_iff_ne, bne_iff_ne]; exact ⟨h42, h63⟩) hk
 have hne : ∀ W : World, (binOp .neq 66 (.slice (some pp) 0 qq) (.slice none 0 0)).run Tryz.prog W = .ok (.bool true) W := fun W => run_neq_slice_nil_any W 66 5 (some pp) 0 qq 0 0 Tryz.underlying66
 rw [if_neg hk, List.append_nil] at hkl
 have hm := iF14.kl_all a0 nn
 have hm1 : ((iF14.kl a0 nn).length ≤ (iF14.kl a0 a0.size).length) = True := eq_true hm
 have hm2 : (((iF14.kl a0 nn).length : Int) ≤ ((iF14.kl a0 a0.size).length : Int)) = True := eq_true (by omega)
 have hm3 : (0 ≤ ((iF14.kl a0 nn).length : Int)) = True := eq_true (by omega)
 have hcp : ∀ (W : World) (d : Option Addr) (n c : Nat), (Builtin.copy_ #[66, 66] 3 #[.slice d n c, .slice (some pp) 0 qq]).run Tryz.prog W = .ok (goInt 0) W := fun W d n c => run_copy_none W 66 66 3 5 d (some pp) n c 0 qq Tryz.underlying66 (by kernel_rfl) (by simp)
 go_wp2_with fail
 repeat (go_quiet (fail); try go_wp2)
 all_goals (try rw [← h])
 all_goals (go_roundg (gk - 1))
 case measure => omega
 case measure => omega
 case rel => exact ⟨nn + 1, hlt, by omega, by rw [hkl]; first | rfl | rw [h], by first | rfl | (congr 1; omega), ⟨by have e := HBf.out; unfold iF14.cells at e ⊢; rw [hkl]; exact e⟩, ⟨HT2.out⟩, ⟨by repeat (first | exact HB.out | apply pw_below_drewN)⟩⟩
 case rel => exact ⟨nn + 1, hlt, by omega, by rw [hkl], by first | rfl | (congr 1; omega), ⟨by have e := HBf.out; unfold iF14.cells at e ⊢; rw [hkl]; exact e⟩, ⟨HT2.out⟩, ⟨by repeat (first | exact HB.out | apply pw_below_drewN)⟩⟩
set_option maxHeartbeats 1600000 in
theorem iF14.replace (w0 w : World) (c d cap : Nat) (HR : iF14.Rp w c d cap) (h0 : w.cell? ⟨c, 0, none⟩ = some (.int .u32 0)) (h1 : w.cell? ⟨c, 1, none⟩ = some (.int .i32 0)) (hB : Below w0.heap.size w0 w) (hc : w0.heap.size ≤ c) (a0 : ByteArray) (ha : a0.size ≤ 14) :
  Calls Tryz.prog 42 #[.pointer (some ⟨c, 0, none⟩), .string a0] w fun e w' => e = .returned (.string (iF14.strip a0)) ∧ Below w0.heap.size w0 w' := by
 have HD := Aside0.mk (iF14.onceDo w0 w c d cap HR h0 h1 hB hc)
 have HA := Aside0.mk ha
 have HF := Aside0.mk HR.fr
 have hm : ∀ (n : Nat) (g : Nat) (W : World), (method (n + 1) 127 (.pointer (some ⟨g, 0, none⟩)) "Replace").run Tryz.prog W = .ok (173, .pointer (some ⟨g, 0, none⟩)) W := fun _ _ _ => by kernel_rfl
 clear HR h0 h1 hB ha
 go_enter Tryz.func42, Tryz.ntmps42
 go_wp2_with (first | (go_at_call 57; refine HD.out.mono ?_; rintro e w2 ⟨rfl, ⟨g, p, q, p2, q2, A, c2, hT, hg, h3⟩, hB2⟩; have HT := Aside0.mk hT; have HB2 := Aside0.mk hB2; clear hT hB2) | (go_at_call 173; refine (iF14.bsr g p q p2 q2 A c2 a0 HA.out _ HT.out).mono ?_; rintro e w3 ⟨rfl, hB3⟩; have HB3 := Aside0.mk (below_step HB2.out hB3); clear hB3))
 go_ret
 exact ⟨rfl, HB3.out⟩
def iF14.f (a0 : ByteArray) : Option Bool := if a0.size ≤ 14 then iF11.f (iF14.strip a0) else some false
set_option maxHeartbeats 1600000 in
theorem iF14.calls (a0 : ByteArray) (r : Bool) (w : World) (h : iF14.f a0 = some r) :
  Calls Tryz.prog 20 #[.string a0] w fun e w' => e = .returned (.bool r) ∧ Below w.heap.size w w' := by
 unfold iF14.f at h
 by_cases ha : a0.size ≤ 14
 ·
  rw [if_pos ha] at h
  have c1 : decide ((a0.size : Int) ≤ 14) = true := dT_ (by omega)
  have c2 : decide (a0.size ≤ 14) = true := dT_ ha
  have HA := Aside0.mk ha
  have HL := Aside0.mk h
  clear h ha
  go_enter Tryz.func20, Tryz.ntmps20
  go_wp2_with (first | ((with_reducible refine gate_dst (N := 7) rfl ?_); (try (refine gate_guard (by rfl) ?_; dsimp only)); refine Kd.R_lit Kd.string (w0 := w) w.heap.size 9 ?hg (N := 7) ?hd (xs := iF14.olds) (inner := [.string ⟨#[63]⟩, .string ⟨#[]⟩, .string ⟨#[42]⟩, .string ⟨#[]⟩]) (ok := fun _ => True) (okp := fun _ => True) ?hr ?hp (fun _ hk => hk) trivial (Below.refl _ _) (Nat.le_refl _) (by decide) ?_; (case hd => rfl); (case hg => rfl); (case hr => first | (go_simp; done) | (go_simp; rfl)); (case hp => exact (Reps.one (show Kd.M Kd.string _ _ _ (⟨#[63]⟩ : ByteArray) [.string ⟨#[63]⟩] from rfl) (Reps.one (show Kd.M Kd.string _ _ _ (⟨#[]⟩ : ByteArray) [.string ⟨#[]⟩] from rfl) (Reps.one (show Kd.M Kd.string _ _ _ (⟨#[42]⟩ : ByteArray) [.string ⟨#[42]⟩] from rfl) (Reps.one (show Kd.M Kd.string _ _ _ (⟨#[]⟩ : ByteArray) [.string ⟨#[]⟩] from rfl) (Reps.none _ _)))))); intro v1 w1 ho hb hg_ hnew_; obtain ⟨a1, cap1, e1, hb1, hb2, -⟩ := Kd.R_form ho (by decide); subst e1; have HO := Aside0.mk ho; have HB := Aside0.mk hb; clear ho hb hg_ hnew_) | (go_at_call 41; refine (iF14.newR a1 cap1 _ (Kd.R_reads' HO.out).2.2).mono ?_; rintro e w2 ⟨c, d, cap, rfl, hcw, hRp, h0, h1, hB2⟩; have HRp := Aside0.mk hRp; have H0 := Aside0.mk h0; have H1 := Aside0.mk h1; have HC := Aside0.mk hcw; have HB2 := Aside0.mk (below_step HB.out hB2); clear hRp h0 h1 hB2 hcw) | (go_at_call 42; refine (iF14.replace w _ c d cap HRp.out H0.out H1.out HB2.out (Nat.le_trans HB.out.size HC.out) a0 HA.out).mono ?_; rintro e w3 ⟨rfl, hB3⟩; have HB3 := Aside0.mk hB3; clear hB3) | (go_at_call 40; refine (iF11.calls (iF14.strip a0) r _ HL.out).mono ?_; rintro e w4 ⟨rfl, hd4⟩; have HB4 := Aside0.mk (below_step HB3.out (by first | exact hd4 | exact hd4.below)); clear hd4))
  go_ret
  exact ⟨rfl, HB4.out⟩
 rw [if_neg ha] at h
 obtain rfl := Option.some.inj h
 have c1 : decide ((a0.size : Int) ≤ 14) = false := dF_ (by omega)
 have c2 : decide (a0.size ≤ 14) = false := dF_ ha
 go_enter Tryz.func20, Tryz.ntmps20
 go_wp2_with fail
 go_ret
 exact ⟨rfl, by repeat (first | exact Below.refl _ _ | apply below_alloc | apply pw_below_drewN | apply below_drew1)⟩
end Go.Proofs.YtjpepfdpihojfaaGreatDoor.P
