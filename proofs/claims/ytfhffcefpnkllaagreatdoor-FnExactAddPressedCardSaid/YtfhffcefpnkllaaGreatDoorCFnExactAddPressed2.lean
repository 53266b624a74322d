/-
  Part 3 of the proof that FnExactAddPressed returns true for every input: the functions that it reaches, each with its contract, and the law.
  Conditions: those of the given statement, no others.
-/
import Derived.Test.YtfhffcefpnkllaaGreatDoorCFnExactAddPressedW0
import Derived.Shelf.Abstract
import Derived.Test.YtfhffcefpnkllaaGreatDoorCFnExactAddPressed0
import Derived.Test.YtfhffcefpnkllaaGreatDoorCFnExactAddPressed1
set_option linter.unusedVariables false
set_option linter.unusedSimpArgs false
set_option maxHeartbeats 8000000
set_option maxRecDepth 100000
namespace Go.Proofs.YtfhffcefpnkllaaGreatDoor.P
open Go.RowKit Go.Proofs.YtfhffcefpnkllaaGreatDoorW.PrintWords Go.Proofs.YtfhffcefpnkllaaGreatDoorW.PrintLast Go.Proofs.YtfhffcefpnkllaaGreatDoorW.PrintMore
open Go.Proofs.YtfhffcefpnkllaaGreatDoorW.PrintWords renaming blk_frozen → bF_, blk_cell → bC_, below_set → bS_, blk_below → bB_, below_step → bT_, pw_below_drewN → bN_, below_size → bZ_, below_drew1 → bD_, below_alloc → bA_, blk_far → bR_, gate_callee → gC_, gate_dst → gD_, box_event → bE_, blk_drew → b1_, blk_put → bP_, blk_drewN → b2_, blk_alloc → b3_, blk_lt → bL_, cell_far → cF_
open Go.Proofs.YtfhffcefpnkllaaGreatDoorW.PrintLast renaming any_of → aO_, i64_w → i6_, i32_w → i3_, take_ofW → tW_
open Go.Proofs.YtfhffcefpnkllaaGreatDoorW.PrintWords.Kd renaming R_below → kB_, R_mono → kM_, R_far → kF_, R_reads' → kR_, R_types → kT_, R_slice → kS_, R_celln → kC_, R_alloc → k1_, R_drewN → k2_, R_drew → k3_, C_below → k4_, R_lower → k5_, R_ne → k6_, own_blk → k7_
open Go.Proofs.YtfhffcefpnkllaaGreatDoorW.PrintWords.LeO renaming none → l0_, bind → l1_, ite → l2_, refl → l3_
open World renaming block_lt_of_cell? → wB_
open _root_.Option renaming bind_eq_some_iff → oB_
open _root_.ByteArray renaming empty → eB_
open List renaming setIfInBounds_toArray → sA_, set_cons_zero → sB_, set_cons_succ → sC_, map_toArray → sD_, map_cons → sE_, map_nil → sF_, length_drop → sG_, length_take → sH_
open Bool renaming true → ty, false → fy
open Aside0 renaming mk → aM_
attribute [local go_sem] max2_int min2_int max_two min_two max_three min_three max_four min_four
def impl_Trie_prefixes.l0 : Nat → List ByteArray → List (S76) → Int → Int → Option (List ByteArray × Bool)
 | 0, _, _, _, _ => none
 | k + 1, x4, x15, x16, x17 => if x17 < x16 then (if 0 ≤ x17 then (if x17 < (x15.length : Int) then ((impl_in.f ((rd_T76 x15 x17).f1) 0 x17).bind fun t378 => (if t378 = true then ((impl_in.f ((rd_T76 x15 x17).f0) 0 25).bind fun t379 => (if t379 = true then (if 0 ≤ ((rd_T76 x15 x17).f1) then (if ((rd_T76 x15 x17).f1) < (x4.length : Int) then ((impl_letter.f ((rd_T76 x15 x17).f0)).bind fun t381 => (if (rdOf eB_ x4 ((rd_T76 x15 x17).f1)).size + t381.size ≤ 9223372036854775807 then (if x4.length < 8796093022208 then (impl_Trie_prefixes.l0 k (x4 ++ [(rdOf eB_ x4 ((rd_T76 x15 x17).f1)) ++ t381]) x15 x16 (wrap64 (x17 + 1))) else (none)) else (none))) else (none)) else (none)) else (some (([] : List ByteArray), false)))) else (some (([] : List ByteArray), false)))) else (none)) else (none)) else (some (x4, true))
def impl_Trie_prefixes.f (k : Nat) (l0_0 : List (S76)) : Option (List ByteArray × Bool) := (impl_in.f (l0_0.length : Int) 1 481).bind fun t371 => (if t371 = true then (if 1 ≤ (l0_0.length : Int) then ((some (l0_0.drop 1 : List (S76))).bind fun y372 => (impl_Trie_prefixes.l0 k (([(⟨#[]⟩ : ByteArray)] : List ByteArray)) y372 (y372.length : Int) 0)) else (none)) else (some (([] : List ByteArray), false)))
theorem impl_Trie_prefixes.mono_l : ∀ k, (∀ y0 y1 y2 y3, LeO (impl_Trie_prefixes.l0 k y0 y1 y2 y3) (impl_Trie_prefixes.l0 (k + 1) y0 y1 y2 y3))
 | 0 => fun _ _ _ _ r h => by simp [impl_Trie_prefixes.l0] at h
 | k + 1 => by
  have ih0 := impl_Trie_prefixes.mono_l k
  intro y0 y1 y2 y3
  unfold impl_Trie_prefixes.l0
  repeat' with_reducible first | exact ih0 _ _ _ _ | exact l3_ _ | exact l0_ _ | refine l2_ ?_ ?_ | refine l1_ ?_ (fun _ => ?_)
theorem impl_Trie_prefixes.mono : ∀ a0 k, LeO (impl_Trie_prefixes.f k a0) (impl_Trie_prefixes.f (k + 1) a0) := by
 intro a0 k
 have ih0 := impl_Trie_prefixes.mono_l k
 unfold impl_Trie_prefixes.f
 repeat' with_reducible first | exact ih0 _ _ _ _ | exact l3_ _ | exact l0_ _ | refine l2_ ?_ ?_ | refine l1_ ?_ (fun _ => ?_)
def impl_Trie_prefixes.T9 : Bool × List (List Nat × List Nat) := (true, [([], []), ([], []), ([], []), ([2], [2]), ([1, 3], [1, 3]), ([4], [4]), ([], []), ([6], [6]), ([7], [7]), ([5, 8], [5, 8]), ([9], [9]), ([0, 10, 8], [0, 10]), ([11, 11, 0, 1, 2, 3, 4, 5, 6, 7, 8, 9, 10, 11], [0, 1, 11])])
def impl_Trie_prefixes.B9 : List Nat := [0, 0, 0, 4, 14, 30, 0, 64, 192, 510, 1022, 2047, 4095]
theorem impl_Trie_prefixes.tab9 : rtab .any (opsOf Tryz.f83 9) = impl_Trie_prefixes.T9 := by kernel_rfl
theorem impl_Trie_prefixes.bits9 : waitsOk impl_Trie_prefixes.T9.2 impl_Trie_prefixes.B9 = true := by kernel_rfl
theorem impl_Trie_prefixes.calls (k : Nat) (A0_0 : Option Addr) (c0_0 : Nat) (l0_0 : List (S76)) (r1 : List ByteArray) (r2 : Bool) (w : World) (hr0_0 : Kd.C k76 w A0_0 l0_0.length l0_0) (hc0_0 : l0_0.length ≤ c0_0) (h : impl_Trie_prefixes.f k l0_0 = some (r1, r2)) :
  Calls Tryz.prog 83 #[.agg #[.slice A0_0 l0_0.length c0_0]] w fun e w' => ∃ v0_ : Value, e = .returned (.tuple #[v0_, .bool r2]) ∧ Kd.R Kd.string 9 w' w.heap.size (fun _ => True) v0_ r1 ∧ Below w.heap.size w w' := by
 have hu36 := Tryz.underlying36
 have hu76 := Tryz.underlying76
 have HR0_0 := aM_ hr0_0
 have HC0_0 := aM_ hc0_0
 clear hr0_0 hc0_0
 have HB := aM_ (Below.refl w.heap.size w)
 have H : ((impl_in.f (l0_0.length : Int) 1 481).bind fun t371 => (if t371 = true then (if 1 ≤ (l0_0.length : Int) then ((some (l0_0.drop 1 : List (S76))).bind fun y372 => (impl_Trie_prefixes.l0 k (([(⟨#[]⟩ : ByteArray)] : List ByteArray)) y372 (y372.length : Int) 0)) else (none)) else (some (([] : List ByteArray), false)))) = some (r1, r2) := h
 clear h
 obtain ⟨y368, hy368⟩ : ∃ y_ : List ByteArray, y_ = (([(⟨#[]⟩ : ByteArray)] : List ByteArray)) := ⟨_, rfl⟩
 replace H : ((impl_in.f (l0_0.length : Int) 1 481).bind fun t371 => (if t371 = true then (if 1 ≤ (l0_0.length : Int) then ((some (l0_0.drop 1 : List (S76))).bind fun y372 => (impl_Trie_prefixes.l0 k y368 y372 (y372.length : Int) 0)) else (none)) else (some (([] : List ByteArray), false)))) = some (r1, r2) := by (try rw [hy368]); first | with_reducible exact H | with_reducible exact (Option.bind_some _ _).symm.trans H | exact H
 have Ny368 := aM_ hy368
 clear hy368
 replace H := oB_.mp H
 obtain ⟨t371, A20, H⟩ := H
 try dsimp only at H
 have A2 := aM_ A20
 clear A20
 by_cases c3 : t371 = true
 rotate_left
 ·
  replace c3 := Bool.eq_false_iff.mpr c3
  subst c3
  replace H : (some (([] : List ByteArray), false)) = some (r1, r2) := by rw [if_neg (show ¬ (false = true) by decide)] at H; exact H
  simp only [Option.some.injEq, Prod.mk.injEq] at H
  obtain ⟨rfl, rfl⟩ := H
  go_enter Tryz.func83, Tryz.ntmps83
  go_wp2_with (first | (refine bx_ 1 #[.slice A0_0 l0_0.length c0_0] 36 (by with_reducible rfl) rfl (by go_simp; done) ?_; intro gb367 hg w36 hbox hb; have BK367 := aM_ (hbox); have GW367 := gw_ hg HB; replace HB := b4_ HB hb; clear hb hbox hg) | ((with_reducible refine gD_ (N := 7) rfl ?_); refine Kd.R_lit Kd.string _ 9 ?hg (N := 7) ?hd (xs := ([(⟨#[]⟩ : ByteArray)] : List ByteArray)) (inner := [.string (⟨#[]⟩ : ByteArray)]) (ok := fun _ => True) (okp := fun _ => True) ?hr ?hp (fun _ hk => hk) trivial (Below.refl _ _) (Nat.le_refl _) (by simp) ?_; (case hd => rfl); (case hg => rfl); (case hr => (go_simp; done)); (case hp => exact (Reps.one (show Kd.M Kd.string _ _ _ (⟨#[]⟩ : ByteArray) [.string (⟨#[]⟩ : ByteArray)] from rfl) (Reps.none _ _))); intro v369 w37 ho38 hb hg_ hnew_; clear hg_ hnew_; (rw [← Ny368.out] at ho38); have HO370 := aM_ (k5_ ho38 (bZ_ HB.out)); replace BK367 := b5_ BK367 hb; replace HB := b4_ HB hb; clear hb ho38; have hcz39_0 := c0_ BK367; have hfz39_0 := bF_ BK367.out 0) | ((with_reducible refine gC_ (f := 67) rfl ?_); refine goesL_ (some 11) rfl rfl Tryz.func67 (by kernel_rfl) rfl #[.int .i64 (l0_0.length : Int), .int .i64 1, .int .i64 481] rfl (by (try simp only [sD_, sE_, sF_]); rfl) ?_; (with_reducible refine (impl_in.calls (l0_0.length : Int) 1 481 false _ A2.out).mono ?_); rintro e w' ⟨rfl, ⟨nd, rfl⟩⟩; refine ⟨_, rfl, ?_⟩))
  go_ret2
  exact ⟨_, by rfl, by exact Kd.R_nil _ _ _ _ _, by repeat with_reducible first | exact HB.out | apply bA_ | apply bN_ | apply bD_ | refine bS_ ?_ GW367.out⟩
 subst c3
 rw [if_pos rfl] at H
 by_cases c4 : 1 ≤ (l0_0.length : Int)
 rotate_left
 ·
  rw [if_neg c4] at H
  exact absurd H (by simp)
 rw [if_pos c4] at H
 have c4b0 := eq_true c4
 have c4b1 := decide_eq_true c4
 clear c4
 obtain ⟨y372, hy372⟩ : ∃ y_ : List (S76), y_ = (l0_0.drop 1) := ⟨_, rfl⟩
 replace H : (impl_Trie_prefixes.l0 k y368 y372 (y372.length : Int) 0) = some (r1, r2) := by (try rw [hy372]); first | with_reducible exact H | with_reducible exact (Option.bind_some _ _).symm.trans H | exact H
 have Ny372 := aM_ hy372
 clear hy372
 have H' := aM_ H
 clear H
 go_enter Tryz.func83, Tryz.ntmps83
 go_wp2_with (first | (refine bx_ 1 #[.slice A0_0 l0_0.length c0_0] 36 (by with_reducible rfl) rfl (by go_simp; done) ?_; intro gb367 hg w5 hbox hb; have BK367 := aM_ (hbox); have GW367 := gw_ hg HB; replace HB := b4_ HB hb; clear hb hbox hg) | ((with_reducible refine gD_ (N := 7) rfl ?_); refine Kd.R_lit Kd.string _ 9 ?hg (N := 7) ?hd (xs := ([(⟨#[]⟩ : ByteArray)] : List ByteArray)) (inner := [.string (⟨#[]⟩ : ByteArray)]) (ok := fun _ => True) (okp := fun _ => True) ?hr ?hp (fun _ hk => hk) trivial (Below.refl _ _) (Nat.le_refl _) (by simp) ?_; (case hd => rfl); (case hg => rfl); (case hr => (go_simp; done)); (case hp => exact (Reps.one (show Kd.M Kd.string _ _ _ (⟨#[]⟩ : ByteArray) [.string (⟨#[]⟩ : ByteArray)] from rfl) (Reps.none _ _))); intro v369 w6 ho7 hb hg_ hnew_; clear hg_ hnew_; (rw [← Ny368.out] at ho7); have HO370 := aM_ (k5_ ho7 (bZ_ HB.out)); replace BK367 := b5_ BK367 hb; replace HB := b4_ HB hb; clear hb ho7; have hcz8_0 := c0_ BK367; have hfz8_0 := bF_ BK367.out 0) | ((with_reducible refine gC_ (f := 67) rfl ?_); refine goesL_ (some 11) rfl rfl Tryz.func67 (by kernel_rfl) rfl #[.int .i64 (l0_0.length : Int), .int .i64 1, .int .i64 481] rfl (by (try simp only [sD_, sE_, sF_]); rfl) ?_; (with_reducible refine (impl_in.calls (l0_0.length : Int) 1 481 true _ A2.out).mono ?_); rintro e w' ⟨rfl, ⟨nd, rfl⟩⟩; refine ⟨_, rfl, ?_⟩; have q9 : (1 : Int) ≤ ((l0_0.length : Int) : Int) := of_decide_eq_true ‹_›; obtain ⟨i09, hi09, _, hsz9, _⟩ := info_parts info76; have hroom9 : l0_0.length ≤ c0_0 := HC0_0.out; have hC9 : Kd.C k76 _ A0_0 l0_0.length l0_0 := HR0_0.out; have hcut9 := cut_from (P := Tryz.prog) 34 76 .i64 Tryz.underlying34 hi09 3 hsz9 A0_0 l0_0.length c0_0 1 (by omega) q9; have hr9 := Kd.C_drop (m := (1 : Int).toNat) (c := c0_0) hC9 (by omega) hroom9; obtain ⟨A9, hA9⟩ : ∃ A1, A1 = (if c0_0 = (1 : Int).toNat then A0_0 else (A0_0 : Option Addr).map (·.add ((1 : Int).toNat * 3))) := ⟨_, rfl⟩; obtain ⟨c9, hc9⟩ : ∃ c1, c1 = c0_0 - (1 : Int).toNat := ⟨_, rfl⟩; have hy9 : y372.length = l0_0.length - (1 : Int).toNat := (by rw [Ny372.out, List.length_drop] <;> omega); rw [show (l0_0).drop (1 : Int).toNat = y372 from Ny372.out.symm] at hr9; replace hr9 : Kd.C k76 _ A9 y372.length y372 := (by rw [hA9]; exact hr9); rw [← hy9, ← hA9, ← hc9] at hcut9; have HR375 := aM_ hr9; have HC375 := aM_ (show y372.length ≤ c9 from by rw [hy9, hc9]; exact Nat.sub_le_sub_right hroom9 _); clear hr9 hC9 hroom9 hi09 hsz9 hc9; have KY9 := aM_ hy9; have KA9 := aM_ hA9; clear hy9 hA9; replace q9 := eq_true q9))
 go_loopg [4, 17] k (fun kq v4 v17 w' => ∃ (x4_1 : List ByteArray) (x17_1 : Int), v17 = .int .i64 x17_1 ∧ Aside0 (impl_Trie_prefixes.l0 kq x4_1 y372 (y372.length : Int) x17_1 = some (r1, r2)) ∧ Aside0 (kq ≤ k) ∧ Aside0 (Kd.R Kd.string 9 w' w.heap.size (fun _ => True) v4 x4_1) ∧ Aside0 (w'.heap[gb367]? = some (.cells #[(.slice A0_0 l0_0.length c0_0)] 36 (0, 0))) ∧ Aside0 (Below w.heap.size w w'))
 case atStart => exact ⟨(y368), (0), (by rfl), H', ⟨Nat.le_refl _⟩, ⟨by (with_reducible repeat (first | apply k1_ | apply k2_ | apply k3_)); exact HO370.out⟩, ⟨by (with_reducible repeat (first | refine b2_ ?_ _ | refine b1_ ?_ | refine b3_ ?_ _)); exact BK367.out⟩, ⟨by repeat with_reducible first | exact HB.out | apply bA_ | apply bN_ | apply bD_ | refine bS_ ?_ GW367.out⟩⟩
 case round =>
  clear H'
  try clear p2
  try clear c4b0
  try clear c4b1
  try clear q9
  try clear hcz8_0
  try clear hfz8_0
  try clear q9
  obtain ⟨x4_1, x17_1, rfl, HA, HK1, HO_4, BK367, HB⟩ := hrel
  cases gk with
  | zero => exact absurd HA.out (by simp [impl_Trie_prefixes.l0])
  | succ k1 =>
   have H := HA.out
   clear HA
   simp only [impl_Trie_prefixes.l0] at H
   by_cases c10 : x17_1 < (y372.length : Int)
   rotate_left
   ·
    rw [if_neg c10] at H
    have c10b0 := decide_eq_false c10
    clear c10
    simp only [Option.some.injEq, Prod.mk.injEq] at H
    obtain ⟨rfl, rfl⟩ := H
    go_wp2
    go_ret2
    exact ⟨_, by rfl, by exact HO_4.out, by exact HB.out⟩
   rw [if_pos c10] at H
   have c10b0 := decide_eq_true c10
   clear c10
   by_cases c11 : 0 ≤ x17_1
   rotate_left
   ·
    rw [if_neg c11] at H
    exact absurd H (by simp)
   rw [if_pos c11] at H
   have c11b0 := decide_eq_true c11
   clear c11
   by_cases c12 : x17_1 < (y372.length : Int)
   rotate_left
   ·
    rw [if_neg c12] at H
    exact absurd H (by simp)
   rw [if_pos c12] at H
   have c12b0 := decide_eq_true c12
   clear c12
   replace H := oB_.mp H
   obtain ⟨t378, A130, H⟩ := H
   try dsimp only at H
   have A13 := aM_ A130
   clear A130
   by_cases c14 : t378 = true
   rotate_left
   ·
    replace c14 := Bool.eq_false_iff.mpr c14
    subst c14
    replace H : (some (([] : List ByteArray), false)) = some (r1, r2) := by rw [if_neg (show ¬ (false = true) by decide)] at H; exact H
    simp only [Option.some.injEq, Prod.mk.injEq] at H
    obtain ⟨rfl, rfl⟩ := H
    have p376 : 0 ≤ (x17_1 : Int) := of_decide_eq_true ‹_›
    have q376 : x17_1 < (y372.length : Int) := of_decide_eq_true ‹_›
    obtain ⟨ad376, e376, hx376_0, hx376_1, hx376_2⟩ := at_T76 HR375.out x17_1 p376 q376
    cases e376
    replace hx376_0 := cb_ HB hx376_0
    replace hx376_1 := cb_ HB hx376_1
    replace hx376_2 := cb_ HB hx376_2
    replace p376 := eq_true p376
    replace q376 := eq_true q376
    go_wp2_with (first | (refine bx_ 6 #[.int .i64 0, .int .i64 0, .bool false] 76 (by with_reducible rfl) rfl (by go_simp; done) ?_; intro gb377 hg w33 hbox hb; replace HO_4 := k9_ HO_4 hb; have BK377 := aM_ (hbox); have GW377 := gw_ hg HB; replace HB := b4_ HB hb; have NB367_377 := nb_ hg BK367; have NB377_367 := ns_ NB367_377; replace BK367 := b5_ BK367 hb; clear hb hbox hg; have hnb34 := NB377_367.out; have hnc34 := NB367_377.out; have hcz35_0 := c0_ BK377; have hcz35_1 := c1_ BK377; have hcz35_2 := c2_ BK377; have hfz35_0 := bF_ BK377.out 0; have hfz35_1 := bF_ BK377.out 1; have hfz35_2 := bF_ BK377.out 2) | ((with_reducible refine gC_ (f := 67) rfl ?_); refine goesL_ (some 25) rfl rfl Tryz.func67 (by kernel_rfl) rfl #[.int .i64 ((rd_T76 y372 x17_1).f1), .int .i64 0, .int .i64 x17_1] rfl (by (try simp only [sD_, sE_, sF_]); rfl) ?_; (with_reducible refine (impl_in.calls ((rd_T76 y372 x17_1).f1) 0 x17_1 false _ A13.out).mono ?_); rintro e w' ⟨rfl, ⟨nd, rfl⟩⟩; refine ⟨_, rfl, ?_⟩))
    go_ret2
    exact ⟨_, by rfl, by exact Kd.R_nil _ _ _ _ _, by repeat with_reducible first | exact HB.out | apply bA_ | apply bN_ | apply bD_ | refine bS_ ?_ (Aside0.out ‹_›)⟩
   subst c14
   rw [if_pos rfl] at H
   replace H := oB_.mp H
   obtain ⟨t379, A150, H⟩ := H
   try dsimp only at H
   have A15 := aM_ A150
   clear A150
   by_cases c16 : t379 = true
   rotate_left
   ·
    replace c16 := Bool.eq_false_iff.mpr c16
    subst c16
    replace H : (some (([] : List ByteArray), false)) = some (r1, r2) := by rw [if_neg (show ¬ (false = true) by decide)] at H; exact H
    simp only [Option.some.injEq, Prod.mk.injEq] at H
    obtain ⟨rfl, rfl⟩ := H
    have p376 : 0 ≤ (x17_1 : Int) := of_decide_eq_true ‹_›
    have q376 : x17_1 < (y372.length : Int) := of_decide_eq_true ‹_›
    obtain ⟨ad376, e376, hx376_0, hx376_1, hx376_2⟩ := at_T76 HR375.out x17_1 p376 q376
    cases e376
    replace hx376_0 := cb_ HB hx376_0
    replace hx376_1 := cb_ HB hx376_1
    replace hx376_2 := cb_ HB hx376_2
    replace p376 := eq_true p376
    replace q376 := eq_true q376
    go_wp2_with (first | (refine bx_ 6 #[.int .i64 0, .int .i64 0, .bool false] 76 (by with_reducible rfl) rfl (by go_simp; done) ?_; intro gb377 hg w30 hbox hb; replace HO_4 := k9_ HO_4 hb; have BK377 := aM_ (hbox); have GW377 := gw_ hg HB; replace HB := b4_ HB hb; have NB367_377 := nb_ hg BK367; have NB377_367 := ns_ NB367_377; replace BK367 := b5_ BK367 hb; clear hb hbox hg; have hnb31 := NB377_367.out; have hnc31 := NB367_377.out; have hcz32_0 := c0_ BK377; have hcz32_1 := c1_ BK377; have hcz32_2 := c2_ BK377; have hfz32_0 := bF_ BK377.out 0; have hfz32_1 := bF_ BK377.out 1; have hfz32_2 := bF_ BK377.out 2) | ((with_reducible refine gC_ (f := 67) rfl ?_); refine goesL_ (some 25) rfl rfl Tryz.func67 (by kernel_rfl) rfl #[.int .i64 ((rd_T76 y372 x17_1).f1), .int .i64 0, .int .i64 x17_1] rfl (by (try simp only [sD_, sE_, sF_]); rfl) ?_; (with_reducible refine (impl_in.calls ((rd_T76 y372 x17_1).f1) 0 x17_1 true _ A13.out).mono ?_); rintro e w' ⟨rfl, ⟨nd, rfl⟩⟩; refine ⟨_, rfl, ?_⟩) | (go_at_call 67; (with_reducible refine (impl_in.calls ((rd_T76 y372 x17_1).f0) 0 25 false _ A15.out).mono ?_); rintro e w' ⟨rfl, ⟨nd, rfl⟩⟩))
    go_ret2
    exact ⟨_, by rfl, by exact Kd.R_nil _ _ _ _ _, by repeat with_reducible first | exact HB.out | apply bA_ | apply bN_ | apply bD_ | refine bS_ ?_ (Aside0.out ‹_›)⟩
   subst c16
   rw [if_pos rfl] at H
   by_cases c17 : 0 ≤ ((rd_T76 y372 x17_1).f1)
   rotate_left
   ·
    rw [if_neg c17] at H
    exact absurd H (by simp)
   rw [if_pos c17] at H
   have c17b0 := decide_eq_true c17
   clear c17
   by_cases c18 : ((rd_T76 y372 x17_1).f1) < (x4_1.length : Int)
   rotate_left
   ·
    rw [if_neg c18] at H
    exact absurd H (by simp)
   rw [if_pos c18] at H
   have c18b0 := decide_eq_true c18
   clear c18
   replace H := oB_.mp H
   obtain ⟨t381, A190, H⟩ := H
   try dsimp only at H
   have A19 := aM_ A190
   clear A190
   by_cases c20 : (rdOf eB_ x4_1 ((rd_T76 y372 x17_1).f1)).size + t381.size ≤ 9223372036854775807
   rotate_left
   ·
    rw [if_neg c20] at H
    exact absurd H (by simp)
   rw [if_pos c20] at H
   have c20b0 := eq_true c20
   have c20b1 := decide_eq_true c20
   try have c20b2 : (9223372036854775807 < (rdOf eB_ x4_1 ((rd_T76 y372 x17_1).f1)).size + t381.size) = False := eq_false (Nat.not_lt.2 c20)
   by_cases c21 : x4_1.length < 8796093022208
   rotate_left
   ·
    rw [if_neg c21] at H
    exact absurd H (by simp)
   rw [if_pos c21] at H
   have LMc21 := aM_ c21
   clear c21
   obtain ⟨y382, hy382⟩ : ∃ y_ : List ByteArray, y_ = (x4_1 ++ [(rdOf eB_ x4_1 ((rd_T76 y372 x17_1).f1)) ++ t381]) := ⟨_, rfl⟩
   replace H : (impl_Trie_prefixes.l0 k1 y382 y372 (y372.length : Int) (wrap64 (x17_1 + 1))) = some (r1, r2) := by (try rw [hy382]); first | with_reducible exact H | with_reducible exact (Option.bind_some _ _).symm.trans H | exact H
   have Ny382 := aM_ hy382
   clear hy382
   have H' := aM_ H
   clear H
   have p376 : 0 ≤ (x17_1 : Int) := of_decide_eq_true ‹_›
   have q376 : x17_1 < (y372.length : Int) := of_decide_eq_true ‹_›
   obtain ⟨ad376, e376, hx376_0, hx376_1, hx376_2⟩ := at_T76 HR375.out x17_1 p376 q376
   cases e376
   replace hx376_0 := cb_ HB hx376_0
   replace hx376_1 := cb_ HB hx376_1
   replace hx376_2 := cb_ HB hx376_2
   replace p376 := eq_true p376
   replace q376 := eq_true q376
   try go_wp2_with (first | (refine bx_ 6 #[.int .i64 0, .int .i64 0, .bool false] 76 (by with_reducible rfl) rfl (by go_simp; done) ?_; intro gb377 hg w22 hbox hb; replace HO_4 := k9_ HO_4 hb; have BK377 := aM_ (hbox); have GW377 := gw_ hg HB; replace HB := b4_ HB hb; have NB367_377 := nb_ hg BK367; have NB377_367 := ns_ NB367_377; replace BK367 := b5_ BK367 hb; clear hb hbox hg; have hnb23 := NB377_367.out; have hnc23 := NB367_377.out; have hcz24_0 := c0_ BK377; have hcz24_1 := c1_ BK377; have hcz24_2 := c2_ BK377; have hfz24_0 := bF_ BK377.out 0; have hfz24_1 := bF_ BK377.out 1; have hfz24_2 := bF_ BK377.out 2) | ((with_reducible refine gC_ (f := 67) rfl ?_); refine goesL_ (some 25) rfl rfl Tryz.func67 (by kernel_rfl) rfl #[.int .i64 ((rd_T76 y372 x17_1).f1), .int .i64 0, .int .i64 x17_1] rfl (by (try simp only [sD_, sE_, sF_]); rfl) ?_; (with_reducible refine (impl_in.calls ((rd_T76 y372 x17_1).f1) 0 x17_1 true _ A13.out).mono ?_); rintro e w' ⟨rfl, ⟨nd, rfl⟩⟩; refine ⟨_, rfl, ?_⟩) | (go_at_call 67; (with_reducible refine (impl_in.calls ((rd_T76 y372 x17_1).f0) 0 25 true _ A15.out).mono ?_); rintro e w' ⟨rfl, ⟨nd, rfl⟩⟩))
   generalize hW_ : (((w22.setCell ⟨gb377, 0, none⟩ (.int .i64 ((rd_T76 y372 x17_1).f0))).setCell ⟨gb377, 1, none⟩ (.int .i64 ((rd_T76 y372 x17_1).f1))).setCell ⟨gb377, 2, none⟩ (.bool ((rd_T76 y372 x17_1).f2))) = w25
   have n0_ : Aside0 (Kd.R Kd.string 9 w25 w.heap.size (fun _ => True) u4 x4_1) := ⟨by subst hW_; exact kM_ (kG_ (kG_ (kG_ (kT_ HO_4.out BK377.out (by decide))))) (fun _ hk => trivial)⟩
   have n1_ : Aside0 (w25.heap[gb367]? = some (.cells #[.slice A0_0 l0_0.length c0_0] 36 (0, 0))) := ⟨by subst hW_; exact br_ NB367_377.out (br_ NB367_377.out (br_ NB367_377.out (BK367.out)))⟩
   have n2_ : Aside0 (w25.heap[gb377]? = some (.cells #[.int .i64 ((rd_T76 y372 x17_1).f0), .int .i64 ((rd_T76 y372 x17_1).f1), .bool ((rd_T76 y372 x17_1).f2)] 76 (0, 0))) := ⟨by subst hW_; refine bP_ (cs := #[.int .i64 ((rd_T76 y372 x17_1).f0), .int .i64 ((rd_T76 y372 x17_1).f1), .bool false]) ?_ 2 _ rfl; refine bP_ (cs := #[.int .i64 ((rd_T76 y372 x17_1).f0), .int .i64 0, .bool false]) ?_ 1 _ rfl; refine bP_ (cs := #[.int .i64 0, .int .i64 0, .bool false]) ?_ 0 _ rfl; exact BK377.out⟩
   have n3_ : Aside0 (Below w.heap.size w w25) := ⟨by subst hW_; repeat with_reducible first | exact HB.out | apply bA_ | apply bN_ | apply bD_ | refine bS_ ?_ (Aside0.out ‹_›)⟩
   (try clear HO_4)
   (try clear BK367)
   (try clear BK377)
   (try clear HB)
   clear hW_
   have HO_4 := n0_
   have BK367 := n1_
   have BK377 := n2_
   have HB := n3_
   clear n0_ n1_ n2_ n3_
   (try (rw [drewN_self w25]; generalize hq_ : World.drewN w25 _ = w25; have n0_ : Aside0 (Kd.R Kd.string 9 w25 w.heap.size (fun _ => True) u4 x4_1) := ⟨by rw [← hq_]; exact (by (with_reducible repeat (first | apply k1_ | apply k2_ | apply k3_)); exact HO_4.out)⟩; have n1_ : Aside0 (w25.heap[gb367]? = some (.cells #[.slice A0_0 l0_0.length c0_0] 36 (0, 0))) := ⟨by rw [← hq_]; exact (by (with_reducible repeat (first | refine b2_ ?_ _ | refine b1_ ?_ | refine b3_ ?_ _)); exact BK367.out)⟩; have n2_ : Aside0 (w25.heap[gb377]? = some (.cells #[.int .i64 ((rd_T76 y372 x17_1).f0), .int .i64 ((rd_T76 y372 x17_1).f1), .bool ((rd_T76 y372 x17_1).f2)] 76 (0, 0))) := ⟨by rw [← hq_]; exact (by (with_reducible repeat (first | refine b2_ ?_ _ | refine b1_ ?_ | refine b3_ ?_ _)); exact BK377.out)⟩; have n3_ : Aside0 (Below w.heap.size w w25) := ⟨by rw [← hq_]; exact (by repeat with_reducible first | exact HB.out | apply bA_ | apply bN_ | apply bD_ | refine bS_ ?_ (Aside0.out ‹_›))⟩; clear HO_4 BK367 BK377 HB hq_; have HO_4 := n0_; have BK367 := n1_; have BK377 := n2_; have HB := n3_; clear n0_ n1_ n2_ n3_))
   have n0_ := aM_ (k3_ HO_4.out)
   have n1_ := aM_ (b1_ BK367.out)
   have n2_ := aM_ (b1_ BK377.out)
   have n3_ := aM_ (bD_ HB.out)
   clear HO_4
   clear BK367
   clear BK377
   clear HB
   have HO_4 := n0_
   have BK367 := n1_
   have BK377 := n2_
   have HB := n3_
   clear n0_ n1_ n2_ n3_
   obtain ⟨Ao27, co27, eo27⟩ := kS_ HO_4.out
   (subst eo27)
   have p380 : 0 ≤ (((rd_T76 y372 x17_1).f1) : Int) := of_decide_eq_true ‹_›
   have q380 : ((rd_T76 y372 x17_1).f1) < (x4_1.length : Int) := of_decide_eq_true ‹_›
   obtain ⟨ad380, e380, hx380_0⟩ := Kd.at_string (kR_ HO_4.out).2.2 ((rd_T76 y372 x17_1).f1) p380 q380
   cases e380
   replace p380 := eq_true p380
   replace q380 := eq_true q380
   refine start_ (n := 13) (S := fun w' => w'.cell? ⟨gb377, 0, none⟩ = some (.int .i64 ((rd_T76 y372 x17_1).f0)) ∧ w'.cell? ⟨gb377, 1, none⟩ = some (.int .i64 ((rd_T76 y372 x17_1).f1)) ∧ w'.cell? ⟨gb377, 2, none⟩ = some (.bool ((rd_T76 y372 x17_1).f2)) ∧ w'.cell? (ad380.add (((rd_T76 y372 x17_1).f1)).toNat) = some (.string (rdOf eB_ x4_1 ((rd_T76 y372 x17_1).f1)))) (ds := [10, 11]) #[fy, fy, fy, fy, fy, fy, fy, fy, fy, fy, fy, fy, fy] (by kernel_rfl) rfl rfl ⟨(bC_ BK377.out 0).trans rfl, (bC_ BK377.out 1).trans rfl, (bC_ BK377.out 2).trans rfl, hx380_0⟩ (fun hHeld => ?_); refine with_tabW impl_Trie_prefixes.tab9 impl_Trie_prefixes.bits9 (fun HT_ HW_ => ?_)
   generalize w25.drew = w26 at HO_4 BK367 BK377 HB hx380_0 hHeld ⊢
   refine pu_ HT_ 0 33 #[ty, fy, fy, fy, fy, fy, fy, fy, fy, fy, fy, fy, fy] (by kernel_rfl) rfl rfl (fun _ _ _ h => h) (by rfl) (by intro w'; go_simp; with_reducible rfl) (by simp only [Act.put, sA_, sB_, sC_, i6_, i3_]; rfl) ?_
   refine pu_ HT_ 1 34 #[ty, ty, fy, fy, fy, fy, fy, fy, fy, fy, fy, fy, fy] (by kernel_rfl) rfl rfl (fun _ _ _ h => h) (by rfl) (by intro w'; go_simp; with_reducible rfl) (by simp only [Act.put, sA_, sB_, sC_, i6_, i3_]; rfl) ?_
   refine pu_ HT_ 2 35 #[ty, ty, ty, fy, fy, fy, fy, fy, fy, fy, fy, fy, fy] (by kernel_rfl) rfl rfl (fun _ _ _ h => h) (by rfl) (by intro w'; go_simp; with_reducible rfl) (by simp only [Act.put, sA_, sB_, sC_, i6_, i3_]; rfl) ?_
   refine pu_ HT_ 6 39 #[ty, ty, ty, fy, fy, fy, ty, fy, fy, fy, fy, fy, fy] (by kernel_rfl) rfl rfl (fun _ _ _ h => h) (by rfl) (by intro w'; go_simp; with_reducible rfl) (by simp only [Act.put, sA_, sB_, sC_, i6_, i3_]; rfl) ?_
   refine tk_ HT_ HW_ 3 36 #[ty, ty, ty, ty, fy, fy, ty, fy, fy, fy, fy, fy, fy] (by kernel_rfl) rfl rfl (fun _ _ _ h => h) (by rfl) (by rintro w' ⟨s0, s1, s2, s3⟩; go_simp; with_reducible rfl) hHeld (by simp only [Act.put, sA_, sB_, sC_, i6_, i3_]; rfl) ?_
   refine pu_ HT_ 4 37 #[ty, ty, ty, ty, ty, fy, ty, fy, fy, fy, fy, fy, fy] (by kernel_rfl) rfl rfl (fun _ _ _ h => h) (by rfl) (by intro w'; go_simp; with_reducible rfl) (by simp only [Act.put, sA_, sB_, sC_, i6_, i3_]; rfl) ?_
   refine tk_ HT_ HW_ 5 38 #[ty, ty, ty, ty, ty, ty, ty, fy, fy, fy, fy, fy, fy] (by kernel_rfl) rfl rfl (fun _ _ _ h => h) (by rfl) (by rintro w' ⟨s0, s1, s2, s3⟩; go_simp; with_reducible rfl) hHeld (by simp only [Act.put, sA_, sB_, sC_, i6_, i3_]; rfl) ?_
   refine tk_ HT_ HW_ 7 40 #[ty, ty, ty, ty, ty, ty, ty, ty, fy, fy, fy, fy, fy] (by kernel_rfl) rfl rfl (fun _ _ _ h => h) (by rfl) (by rintro w' ⟨s0, s1, s2, s3⟩; go_simp; with_reducible rfl) hHeld (by simp only [Act.put, sA_, sB_, sC_, i6_, i3_]; rfl) ?_
   refine one_ (i := 8) (N := some 41) #[ty, ty, ty, ty, ty, ty, ty, ty, ty, fy, fy, fy, fy] rfl rfl (one_of HT_.out (by kernel_rfl)) (by decide) (fun K hK => ?_)
   refine goes_ Tryz.func98 (by kernel_rfl) rfl #[.int .i64 ((rd_T76 y372 x17_1).f0)] (by rfl) rfl rfl (by (try simp only [sD_, sE_, sF_]); rfl) ?_
   with_reducible refine (impl_letter.calls ((rd_T76 y372 x17_1).f0) t381 _ A19.out).mono ?_
   rintro e w28 ⟨rfl, hb⟩
   have HS3_ := (hb.cell (wB_ _ _ (hHeld.2.2.2))).trans (hHeld.2.2.2)
   refine ⟨_, rfl, ?_⟩
   have n0_ := k9_ HO_4 hb
   have n1_ := b5_ BK367 hb
   have n2_ := b5_ BK377 hb
   have n3_ := b4_ HB hb
   clear HO_4
   clear BK367
   clear BK377
   clear HB
   have HO_4 := n0_
   have BK367 := n1_
   have BK377 := n2_
   have HB := n3_
   clear n0_ n1_ n2_ n3_
   (try clear hb)
   refine hK.out _ _ ⟨(bC_ BK377.out 0).trans rfl, (bC_ BK377.out 1).trans rfl, (bC_ BK377.out 2).trans rfl, HS3_⟩ (fun hHeld => ?_)
   clear hK K
   refine norm_ (by show Act.put _ (some 41) _ = _; simp only [Act.put, sA_, sB_, sC_, i6_, i3_]; rfl) ?_
   refine pu_ HT_ 9 42 #[ty, ty, ty, ty, ty, ty, ty, ty, ty, ty, fy, fy, fy] (by kernel_rfl) rfl rfl (fun _ _ _ h => h) (by rfl) (by intro w'; go_simp; with_reducible rfl) (by simp only [Act.put, sA_, sB_, sC_, i6_, i3_]; rfl) ?_
   refine last_ (i := 10) (N := some 43) #[ty, ty, ty, ty, ty, ty, ty, ty, ty, ty, ty, fy, fy] rfl rfl (one_of HT_.out (by kernel_rfl)) (by decide) (fun K hK => ?_)
   refine value_ (w1 := ?_) (v := ?_) (by rfl) rfl ?_ ?_
   rotate_left 2
   ·
    go_simp
    constructor
    ·
     rfl
    rfl
   refine hK.out _ _ ?_
   clear hK K
   refine norm_ (by show Act.put _ (some 43) _ = _; simp only [Act.put, sA_, sB_, sC_, i6_, i3_]; rfl) ?_
   refine last_ (i := 11) (N := some 44) #[ty, ty, ty, ty, ty, ty, ty, ty, ty, ty, ty, ty, fy] rfl rfl (one_of HT_.out (by kernel_rfl)) (by decide) (fun K hK => ?_)
   refine Kd.R_append_step Kd.string (w0 := w) w.heap.size (by rfl) (.tmp 33) (.tmp 43) 49 9 (.string ⟨#[]⟩) 16 rfl Tryz.underlying49 info9 rfl (by decide) (by omega) (.slice (some ad380) x4_1.length co27) x4_1 ((rdOf eB_ x4_1 ((rd_T76 y372 x17_1).f1)) ++ t381) [.string ((rdOf eB_ x4_1 ((rd_T76 y372 x17_1).f1)) ++ t381)] (fun _ => True) (fun _ => False) rfl rfl ?aP (fun _ hk => hk.elim) ?aF ?aO ?aB ?aS ?aL ?_
   (case aP => exact rfl)
   (case aB => exact HB.out)
   (case aF => exact (fun _ _ => trivial))
   (case aO => exact HO_4.out)
   (case aS => exact (bZ_ HB.out))
   (case aL => have := LMc21.out; omega)
   intro v383 w29 ho hb hg hat
   rw [← Ny382.out] at ho
   have n0_ := aM_ (blk_grown (g := gb367) (o := .cells #[.slice A0_0 l0_0.length c0_0] 36 (0, 0)) BK367.out hg (k6_ HO_4.out BK367.out (by decide)))
   have n1_ := aM_ (blk_grown (g := gb377) (o := .cells #[.int .i64 ((rd_T76 y372 x17_1).f0), .int .i64 ((rd_T76 y372 x17_1).f1), .bool ((rd_T76 y372 x17_1).f2)] 76 (0, 0)) BK377.out hg (k6_ HO_4.out BK377.out (by decide)))
   have n2_ := aM_ (hb)
   have n3_ := aM_ (ho)
   clear BK367
   clear BK377
   clear HB
   clear HO_4
   have BK367 := n0_
   have BK377 := n1_
   have HB := n2_
   have HO384 := n3_
   clear n0_ n1_ n2_ n3_
   clear ho hb hg hat
   refine hK.out _ _ ?_
   clear hK K
   refine norm_ (by show Act.put _ (some 44) _ = _; simp only [Act.put, sA_, sB_, sC_, i6_, i3_]; rfl) ?_
   refine pu_ HT_ 12 4 #[ty, ty, ty, ty, ty, ty, ty, ty, ty, ty, ty, ty, ty] (by kernel_rfl) rfl rfl (fun _ _ _ h => h) (by rfl) (by intro w'; go_simp; with_reducible rfl) (by simp only [Act.put, sA_, sB_, sC_, i6_, i3_]; rfl) ?_
   refine done_ (done_of HT_.out (by kernel_rfl)) ?_
   try go_wp2
   go_roundg k1
   case measure => have := HK1.out; omega
   case rel => exact ⟨(y382), (wrap64 (x17_1 + 1)), (by rfl), H', ⟨by have := HK1.out; omega⟩, ⟨HO384.out⟩, ⟨BK367.out⟩, ⟨HB.out⟩⟩
def impl_Trie_kids.l0 : Nat → Int → List Int → List (S76) → Int → Int → Option (List Int)
 | 0, _, _, _, _, _ => none
 | k + 1, x1, x5, x10, x11, x12 => if x12 < x11 then (if 0 ≤ x12 then (if x12 < (x10.length : Int) then (if ((rd_T76 x10 x12).f1) = x1 then (if x5.length < 17592186044416 then (impl_Trie_kids.l0 k x1 (x5 ++ [x12]) x10 x11 (wrap64 (x12 + 1))) else (none)) else (impl_Trie_kids.l0 k x1 x5 x10 x11 (wrap64 (x12 + 1)))) else (none)) else (none)) else (some x5)
def impl_Trie_kids.f (k : Nat) (l0_0 : List (S76)) (a1 : Int) : Option (List Int) := impl_Trie_kids.l0 k a1 (([] : List Int)) l0_0 (l0_0.length : Int) 0
theorem impl_Trie_kids.mono_l : ∀ k, (∀ y0 y1 y2 y3 y4, LeO (impl_Trie_kids.l0 k y0 y1 y2 y3 y4) (impl_Trie_kids.l0 (k + 1) y0 y1 y2 y3 y4))
 | 0 => fun _ _ _ _ _ r h => by simp [impl_Trie_kids.l0] at h
 | k + 1 => by
  have ih0 := impl_Trie_kids.mono_l k
  intro y0 y1 y2 y3 y4
  unfold impl_Trie_kids.l0
  repeat' with_reducible first | exact ih0 _ _ _ _ _ | exact l3_ _ | exact l0_ _ | refine l2_ ?_ ?_ | refine l1_ ?_ (fun _ => ?_)
theorem impl_Trie_kids.mono : ∀ a0 a1 k, LeO (impl_Trie_kids.f k a0 a1) (impl_Trie_kids.f (k + 1) a0 a1) := by
 intro a0 a1 k
 have ih0 := impl_Trie_kids.mono_l k
 unfold impl_Trie_kids.f
 repeat' with_reducible first | exact ih0 _ _ _ _ _ | exact l3_ _ | exact l0_ _ | refine l2_ ?_ ?_ | refine l1_ ?_ (fun _ => ?_)
theorem impl_Trie_kids.calls (k : Nat) (A0_0 : Option Addr) (c0_0 : Nat) (l0_0 : List (S76)) (a1 : Int) (r : List Int) (w : World) (hr0_0 : Kd.C k76 w A0_0 l0_0.length l0_0) (hc0_0 : l0_0.length ≤ c0_0) (h : impl_Trie_kids.f k l0_0 a1 = some r) :
  Calls Tryz.prog 99 #[.agg #[.slice A0_0 l0_0.length c0_0], .int .i64 a1] w fun e w' => ∃ v0_ : Value, e = .returned (v0_) ∧ Kd.R (Kd.int .i64) 3 w' w.heap.size (fun _ => True) v0_ r ∧ Below w.heap.size w w' := by
 have hu36 := Tryz.underlying36
 have hu76 := Tryz.underlying76
 have HR0_0 := aM_ hr0_0
 have HC0_0 := aM_ hc0_0
 clear hr0_0 hc0_0
 have HB := aM_ (Below.refl w.heap.size w)
 have H : (impl_Trie_kids.l0 k a1 (([] : List Int)) l0_0 (l0_0.length : Int) 0) = some r := h
 clear h
 obtain ⟨y386, hy386⟩ : ∃ y_ : List Int, y_ = (([] : List Int)) := ⟨_, rfl⟩
 replace H : (impl_Trie_kids.l0 k a1 y386 l0_0 (l0_0.length : Int) 0) = some r := by (try rw [hy386]); first | with_reducible exact H | with_reducible exact (Option.bind_some _ _).symm.trans H | exact H
 have Ny386 := aM_ hy386
 clear hy386
 have H' := aM_ H
 clear H
 go_enter Tryz.func99, Tryz.ntmps99
 go_wp2_with (first | (refine bx_ 2 #[.slice A0_0 l0_0.length c0_0] 36 (by with_reducible rfl) rfl (by go_simp; done) ?_; intro gb385 hg w3 hbox hb; have BK385 := aM_ (hbox); have GW385 := gw_ hg HB; replace HB := b4_ HB hb; clear hb hbox hg) | ((with_reducible refine gD_ (N := 8) rfl ?_); refine Kd.R_lit (Kd.int .i64) _ 3 ?hg (N := 8) ?hd (xs := ([] : List Int)) (inner := []) (ok := fun _ => True) (okp := fun _ => True) ?hr ?hp (fun _ hk => hk) trivial (Below.refl _ _) (Nat.le_refl _) (by simp) ?_; (case hd => rfl); (case hg => rfl); (case hr => (go_simp; done)); (case hp => exact (Reps.none _ _)); intro v387 w4 ho5 hb hg_ hnew_; clear hg_ hnew_; (rw [← Ny386.out] at ho5); have HO388 := aM_ (k5_ ho5 (bZ_ HB.out)); replace BK385 := b5_ BK385 hb; replace HB := b4_ HB hb; clear hb ho5; have hcz6_0 := c0_ BK385; have hfz6_0 := bF_ BK385.out 0))
 go_loopg [5, 12] k (fun kq v5 v12 w' => ∃ (x5_1 : List Int) (x12_1 : Int), v12 = .int .i64 x12_1 ∧ Aside0 (impl_Trie_kids.l0 kq a1 x5_1 l0_0 (l0_0.length : Int) x12_1 = some r) ∧ Aside0 (kq ≤ k) ∧ Aside0 (Kd.R (Kd.int .i64) 3 w' w.heap.size (fun _ => True) v5 x5_1) ∧ Aside0 (w'.heap[gb385]? = some (.cells #[(.slice A0_0 l0_0.length c0_0)] 36 (0, 0))) ∧ Aside0 (Below w.heap.size w w'))
 case atStart => exact ⟨(y386), (0), (by rfl), H', ⟨Nat.le_refl _⟩, ⟨HO388.out⟩, ⟨BK385.out⟩, ⟨HB.out⟩⟩
 case round =>
  clear H'
  try clear p2
  try clear hcz6_0
  try clear hfz6_0
  obtain ⟨x5_1, x12_1, rfl, HA, HK1, HO_5, BK385, HB⟩ := hrel
  cases gk with
  | zero => exact absurd HA.out (by simp [impl_Trie_kids.l0])
  | succ k1 =>
   have H := HA.out
   clear HA
   simp only [impl_Trie_kids.l0] at H
   by_cases c7 : x12_1 < (l0_0.length : Int)
   rotate_left
   ·
    rw [if_neg c7] at H
    have c7b0 := decide_eq_false c7
    clear c7
    obtain rfl := Option.some.inj H
    go_wp2
    go_ret
    exact ⟨_, by rfl, by exact HO_5.out, by exact HB.out⟩
   rw [if_pos c7] at H
   have c7b0 := decide_eq_true c7
   clear c7
   by_cases c8 : 0 ≤ x12_1
   rotate_left
   ·
    rw [if_neg c8] at H
    exact absurd H (by simp)
   rw [if_pos c8] at H
   have c8b0 := decide_eq_true c8
   clear c8
   by_cases c9 : x12_1 < (l0_0.length : Int)
   rotate_left
   ·
    rw [if_neg c9] at H
    exact absurd H (by simp)
   rw [if_pos c9] at H
   have c9b0 := decide_eq_true c9
   clear c9
   by_cases c10 : ((rd_T76 l0_0 x12_1).f1) = a1
   ·
    rw [if_pos c10] at H
    have c10b0 : (((rd_T76 l0_0 x12_1).f1) == a1) = true := beq_iff_eq.mpr c10
    have c10b1 : (((rd_T76 l0_0 x12_1).f1) != a1) = false := bne_eq_false_iff_eq.mpr c10
    clear c10
    by_cases c11 : x5_1.length < 17592186044416
    rotate_left
    ·
     rw [if_neg c11] at H
     exact absurd H (by simp)
    rw [if_pos c11] at H
    have LMc11 := aM_ c11
    clear c11
    obtain ⟨y391, hy391⟩ : ∃ y_ : List Int, y_ = (x5_1 ++ [x12_1]) := ⟨_, rfl⟩
    replace H : (impl_Trie_kids.l0 k1 a1 y391 l0_0 (l0_0.length : Int) (wrap64 (x12_1 + 1))) = some r := by (try rw [hy391]); first | with_reducible exact H | with_reducible exact (Option.bind_some _ _).symm.trans H | exact H
    have Ny391 := aM_ hy391
    clear hy391
    have H' := aM_ H
    clear H
    have p389 : 0 ≤ (x12_1 : Int) := of_decide_eq_true ‹_›
    have q389 : x12_1 < (l0_0.length : Int) := of_decide_eq_true ‹_›
    obtain ⟨ad389, e389, hx389_0, hx389_1, hx389_2⟩ := at_T76 HR0_0.out x12_1 p389 q389
    cases e389
    replace hx389_0 := cb_ HB hx389_0
    replace hx389_1 := cb_ HB hx389_1
    replace hx389_2 := cb_ HB hx389_2
    replace p389 := eq_true p389
    replace q389 := eq_true q389
    go_wp2_with (first | (refine bx_ 7 #[.int .i64 0, .int .i64 0, .bool false] 76 (by with_reducible rfl) rfl (by go_simp; done) ?_; intro gb390 hg w12 hbox hb; replace HO_5 := k9_ HO_5 hb; have BK390 := aM_ (hbox); have GW390 := gw_ hg HB; replace HB := b4_ HB hb; have NB385_390 := nb_ hg BK385; have NB390_385 := ns_ NB385_390; replace BK385 := b5_ BK385 hb; clear hb hbox hg; have hnb13 := NB390_385.out; have hnc13 := NB385_390.out; have hcz14_0 := c0_ BK390; have hcz14_1 := c1_ BK390; have hcz14_2 := c2_ BK390; have hfz14_0 := bF_ BK390.out 0; have hfz14_1 := bF_ BK390.out 1; have hfz14_2 := bF_ BK390.out 2) | ((with_reducible refine gate_builtin (b := .append) (xs := #[.tmp 21, .tmp 23]) rfl ?_); at_builtin; refine Kd.R_append (Kd.int .i64) (w0 := w) w.heap.size rfl (.tmp 21) (.tmp 23) 87 3 (.int .i64 0) 8 rfl Tryz.underlying87 info3 rfl (by decide) (by omega) u5 x5_1 x12_1 [.int .i64 x12_1] (fun _ => True) (fun _ => False) rfl (by (go_simp; done)) ?aP (fun _ hk => hk.elim) ?aF ?aO ?aB ?aS ?aL ?_; (case aP => exact rfl); (case aB => exact (by repeat with_reducible first | exact HB.out | apply bA_ | apply bN_ | apply bD_ | refine bS_ ?_ (Aside0.out ‹_›))); (case aF => exact (fun _ _ => trivial)); (case aO => exact (by exact kM_ (kG_ (kG_ (kG_ (kT_ HO_5.out BK390.out (by decide))))) (fun _ hk => trivial))); (case aS => exact (bZ_ (by repeat with_reducible first | exact HB.out | apply bA_ | apply bN_ | apply bD_ | refine bS_ ?_ (Aside0.out ‹_›)))); (case aL => have := LMc11.out; omega); intro v392 w15 ho hb hg hat; rw [← Ny391.out] at ho; have n0_ := aM_ (blk_grown (g := gb385) (o := .cells #[.slice (some ad389) l0_0.length c0_0] 36 (0, 0)) (by exact br_ NB385_390.out (br_ NB385_390.out (br_ NB385_390.out (BK385.out)))) hg (k6_ HO_5.out BK385.out (by decide))); have n1_ := aM_ (blk_grown (g := gb390) (o := .cells #[.int .i64 ((rd_T76 l0_0 x12_1).f0), .int .i64 ((rd_T76 l0_0 x12_1).f1), .bool ((rd_T76 l0_0 x12_1).f2)] 76 (0, 0)) (by refine bP_ (cs := #[.int .i64 ((rd_T76 l0_0 x12_1).f0), .int .i64 ((rd_T76 l0_0 x12_1).f1), .bool false]) ?_ 2 _ rfl; refine bP_ (cs := #[.int .i64 ((rd_T76 l0_0 x12_1).f0), .int .i64 0, .bool false]) ?_ 1 _ rfl; refine bP_ (cs := #[.int .i64 0, .int .i64 0, .bool false]) ?_ 0 _ rfl; exact BK390.out) hg (k6_ HO_5.out BK390.out (by decide))); have n2_ := aM_ (hb); have n3_ := aM_ (ho); clear BK385; clear BK390; clear HB; clear HO_5; have BK385 := n0_; have BK390 := n1_; have HB := n2_; have HO393 := n3_; clear n0_ n1_ n2_ n3_; clear ho hb hg hat))
    go_roundg k1
    case measure => have := HK1.out; omega
    case rel => exact ⟨(y391), (wrap64 (x12_1 + 1)), (by rfl), H', ⟨by have := HK1.out; omega⟩, ⟨HO393.out⟩, ⟨BK385.out⟩, ⟨HB.out⟩⟩
   rw [if_neg c10] at H
   have c10b0 : (((rd_T76 l0_0 x12_1).f1) == a1) = false := beq_eq_false_iff_ne.mpr c10
   have c10b1 : (((rd_T76 l0_0 x12_1).f1) != a1) = true := bne_iff_ne.mpr c10
   have H' := aM_ H
   clear H
   have p389 : 0 ≤ (x12_1 : Int) := of_decide_eq_true ‹_›
   have q389 : x12_1 < (l0_0.length : Int) := of_decide_eq_true ‹_›
   obtain ⟨ad389, e389, hx389_0, hx389_1, hx389_2⟩ := at_T76 HR0_0.out x12_1 p389 q389
   cases e389
   replace hx389_0 := cb_ HB hx389_0
   replace hx389_1 := cb_ HB hx389_1
   replace hx389_2 := cb_ HB hx389_2
   replace p389 := eq_true p389
   replace q389 := eq_true q389
   go_wp2_with (first | (refine bx_ 7 #[.int .i64 0, .int .i64 0, .bool false] 76 (by with_reducible rfl) rfl (by go_simp; done) ?_; intro gb390 hg w16 hbox hb; replace HO_5 := k9_ HO_5 hb; have BK390 := aM_ (hbox); have GW390 := gw_ hg HB; replace HB := b4_ HB hb; have NB385_390 := nb_ hg BK385; have NB390_385 := ns_ NB385_390; replace BK385 := b5_ BK385 hb; clear hb hbox hg; have hnb17 := NB390_385.out; have hnc17 := NB385_390.out; have hcz18_0 := c0_ BK390; have hcz18_1 := c1_ BK390; have hcz18_2 := c2_ BK390; have hfz18_0 := bF_ BK390.out 0; have hfz18_1 := bF_ BK390.out 1; have hfz18_2 := bF_ BK390.out 2))
   go_roundg k1
   case measure => have := HK1.out; omega
   case rel => exact ⟨(x5_1), (wrap64 (x12_1 + 1)), (by rfl), H', ⟨by have := HK1.out; omega⟩, ⟨by exact kM_ (kG_ (kG_ (kG_ (kT_ HO_5.out BK390.out (by decide))))) (fun _ hk => trivial)⟩, ⟨by exact br_ NB385_390.out (br_ NB385_390.out (br_ NB385_390.out (BK385.out)))⟩, ⟨by repeat with_reducible first | exact HB.out | apply bA_ | apply bN_ | apply bD_ | refine bS_ ?_ (Aside0.out ‹_›)⟩⟩
def impl_Trie_stays.f (k : Nat) (l0_0 : List (S76)) (a1 : Int) : Option (Bool) := if a1 = 0 then (some true) else (if 0 ≤ a1 then (if a1 < (l0_0.length : Int) then (if (rd_T76 l0_0 a1).f2 = true then (some true) else ((impl_Trie_kids.f k l0_0 a1).bind fun t396 => (some ((t396.length : Int) != 1)))) else (none)) else (none))
theorem impl_Trie_stays.mono : ∀ a0 a1 k, LeO (impl_Trie_stays.f k a0 a1) (impl_Trie_stays.f (k + 1) a0 a1) := by
 intro a0 a1 k
 unfold impl_Trie_stays.f
 repeat' with_reducible first | exact impl_Trie_kids.mono _ _ _ | exact l3_ _ | exact l0_ _ | refine l2_ ?_ ?_ | refine l1_ ?_ (fun _ => ?_)
theorem impl_Trie_stays.calls (k : Nat) (A0_0 : Option Addr) (c0_0 : Nat) (l0_0 : List (S76)) (a1 : Int) (r : Bool) (w : World) (hr0_0 : Kd.C k76 w A0_0 l0_0.length l0_0) (hc0_0 : l0_0.length ≤ c0_0) (h : impl_Trie_stays.f k l0_0 a1 = some r) :
  Calls Tryz.prog 84 #[.agg #[.slice A0_0 l0_0.length c0_0], .int .i64 a1] w fun e w' => e = .returned (.bool r) ∧ Below w.heap.size w w' := by
 have hu36 := Tryz.underlying36
 have HR0_0 := aM_ hr0_0
 have HC0_0 := aM_ hc0_0
 clear hr0_0 hc0_0
 have HB := aM_ (Below.refl w.heap.size w)
 have H : (if a1 = 0 then (some true) else (if 0 ≤ a1 then (if a1 < (l0_0.length : Int) then (if (rd_T76 l0_0 a1).f2 = true then (some true) else ((impl_Trie_kids.f k l0_0 a1).bind fun t396 => (some ((t396.length : Int) != 1)))) else (none)) else (none))) = some r := h
 clear h
 by_cases c3 : a1 = 0
 ·
  rw [if_pos c3] at H
  have c3b0 : (a1 == 0) = true := beq_iff_eq.mpr c3
  have c3b1 : (a1 != 0) = false := bne_eq_false_iff_eq.mpr c3
  clear c3
  obtain rfl := Option.some.inj H
  go_enter Tryz.func84, Tryz.ntmps84
  go_wp2_with (first | ((with_reducible refine gD_ (N := 2) rfl ?_); (try (refine gate_guard (by rfl) ?_; dsimp only)); refine bE_ ?hg (N := 2) ?hd (cs := #[.slice A0_0 l0_0.length c0_0]) (t := 36) ?hr ?_; (case hd => rfl); (case hg => rfl); (case hr => (go_simp; done)); intro gb394 hg w4 hbox hb; have BK394 := aM_ (hbox); have GW394 := gw_ hg HB; replace HB := b4_ HB hb; clear hb hbox hg))
  go_ret
  exact ⟨by rfl, by exact HB.out⟩
 rw [if_neg c3] at H
 have c3b0 : (a1 == 0) = false := beq_eq_false_iff_ne.mpr c3
 have c3b1 : (a1 != 0) = true := bne_iff_ne.mpr c3
 by_cases c5 : 0 ≤ a1
 rotate_left
 ·
  rw [if_neg c5] at H
  exact absurd H (by simp)
 rw [if_pos c5] at H
 have c5b0 := decide_eq_true c5
 clear c5
 by_cases c6 : a1 < (l0_0.length : Int)
 rotate_left
 ·
  rw [if_neg c6] at H
  exact absurd H (by simp)
 rw [if_pos c6] at H
 have c6b0 := decide_eq_true c6
 clear c6
 obtain ⟨bq7, hbq7⟩ : ∃ b_ : Bool, b_ = ((rd_T76 l0_0 a1).f2) := ⟨_, rfl⟩
 replace H : (if bq7 = true then (some true) else ((impl_Trie_kids.f k l0_0 a1).bind fun t396 => (some ((t396.length : Int) != 1)))) = some r := by rw [← hbq7] at H; exact H
 have Nbq7 := aM_ hbq7
 clear hbq7
 by_cases c8 : bq7 = true
 ·
  subst c8
  rw [if_pos rfl] at H
  obtain rfl := Option.some.inj H
  go_enter Tryz.func84, Tryz.ntmps84
  go_wp2_with (first | ((with_reducible refine gD_ (N := 2) rfl ?_); (try (refine gate_guard (by rfl) ?_; dsimp only)); refine bE_ ?hg (N := 2) ?hd (cs := #[.slice A0_0 l0_0.length c0_0]) (t := 36) ?hr ?_; (case hd => rfl); (case hg => rfl); (case hr => (go_simp; done)); intro gb394 hg w9 hbox hb; have BK394 := aM_ (hbox); have GW394 := gw_ hg HB; replace HB := b4_ HB hb; clear hb hbox hg; have hcz10_0 := c0_ BK394; have hfz10_0 := bF_ BK394.out 0; have p395 : 0 ≤ (a1 : Int) := of_decide_eq_true ‹_›; have q395 : a1 < (l0_0.length : Int) := of_decide_eq_true ‹_›; obtain ⟨ad395, e395, hx395_0, hx395_1, hx395_2⟩ := at_T76 HR0_0.out a1 p395 q395; (try rw [← Nbq7.out] at hx395_2); cases e395; replace hx395_0 := cb_ HB hx395_0; replace hx395_1 := cb_ HB hx395_1; replace hx395_2 := cb_ HB hx395_2; replace p395 := eq_true p395; replace q395 := eq_true q395))
  go_ret
  exact ⟨by rfl, by exact HB.out⟩
 replace c8 := Bool.eq_false_iff.mpr c8
 subst c8
 replace H : ((impl_Trie_kids.f k l0_0 a1).bind fun t396 => (some ((t396.length : Int) != 1))) = some r := by rw [if_neg (show ¬ (false = true) by decide)] at H; exact H
 replace H := oB_.mp H
 obtain ⟨t396, A110, H⟩ := H
 try dsimp only at H
 have A11 := aM_ A110
 clear A110
 obtain rfl := Option.some.inj H
 go_enter Tryz.func84, Tryz.ntmps84
 go_wp2_with (first | ((with_reducible refine gD_ (N := 2) rfl ?_); (try (refine gate_guard (by rfl) ?_; dsimp only)); refine bE_ ?hg (N := 2) ?hd (cs := #[.slice A0_0 l0_0.length c0_0]) (t := 36) ?hr ?_; (case hd => rfl); (case hg => rfl); (case hr => (go_simp; done)); intro gb394 hg w12 hbox hb; have BK394 := aM_ (hbox); have GW394 := gw_ hg HB; replace HB := b4_ HB hb; clear hb hbox hg; have hcz13_0 := c0_ BK394; have hfz13_0 := bF_ BK394.out 0; have p395 : 0 ≤ (a1 : Int) := of_decide_eq_true ‹_›; have q395 : a1 < (l0_0.length : Int) := of_decide_eq_true ‹_›; obtain ⟨ad395, e395, hx395_0, hx395_1, hx395_2⟩ := at_T76 HR0_0.out a1 p395 q395; (try rw [← Nbq7.out] at hx395_2); cases e395; replace hx395_0 := cb_ HB hx395_0; replace hx395_1 := cb_ HB hx395_1; replace hx395_2 := cb_ HB hx395_2; replace p395 := eq_true p395; replace q395 := eq_true q395) | (go_at_call 99; (with_reducible refine (impl_Trie_kids.calls k _ _ l0_0 a1 t396 _ ?side1 HC0_0.out A11.out).mono ?_); (case side1 => repeat (first | exact (k4_ HR0_0.out HB.out) | with_reducible first | apply Kd.C_alloc | apply Kd.C_drewN | apply Kd.C_drew)); rintro e w14 ⟨v397, rfl, ho0, hb⟩; have HO398 := aM_ (k5_ ho0 (bZ_ HB.out)); replace BK394 := b5_ BK394 hb; replace HB := b4_ HB hb; (try clear hb); (try clear ho0); obtain ⟨Ao15, co15, eo15⟩ := kS_ HO398.out; subst eo15))
 go_ret
 exact ⟨by rfl, by exact HB.out⟩
mutual
def impl_Trie_press.l0 : Nat → List ByteArray → List Int → List (S76) → Int → Int → List (S76) → List (S60) → Option ((List (S60)))
 | 0, _, _, _, _, _, _, _ => none
 | k + 1, x3, x6, x22, x23, x24, x400000, x409000 => if x24 < x23 then (if 0 ≤ x24 then (if x24 < (x22.length : Int) then ((impl_Trie_stays.f k x400000 x24).bind fun t411 => (if t411 = true then (if x24 > 0 then (impl_Trie_press.l1 k x3 x6 x24 ((rd_T76 x22 x24).f1) x22 x23 x24 x400000 x409000 (⟨#[]⟩ : ByteArray) (-1) ((rd_T76 x22 x24).f2)) else (if x24 < (x6.length : Int) then (if x409000.length < 4398046511104 then (impl_Trie_press.l0 k x3 (x6.set (x24 : Int).toNat (x409000.length : Int)) x22 x23 (wrap64 (x24 + 1)) x400000 (x409000 ++ [(⟨(⟨#[]⟩ : ByteArray), (-1), (rd_T76 x22 x24).f2⟩ : S60)])) else (none)) else (none))) else (impl_Trie_press.l0 k x3 x6 x22 x23 (wrap64 (x24 + 1)) x400000 x409000))) else (none)) else (none)) else (some x409000)
def impl_Trie_press.l1 : Nat → List ByteArray → List Int → Int → Int → List (S76) → Int → Int → List (S76) → List (S60) → ByteArray → Int → Bool → Option ((List (S60)))
 | 0, _, _, _, _, _, _, _, _, _, _, _, _ => none
 | k + 1, x3, x6, x7, x10, x22, x23, x24, x400000, x409000, x413000, x413001, x413002 => (impl_Trie_stays.f k x400000 x10).bind fun t413 => (if t413 = true then (if 0 ≤ x7 then (if x7 < (x3.length : Int) then (if 0 ≤ x10 then (if x10 < (x3.length : Int) then (if 0 ≤ ((rdOf eB_ x3 x10).size : Int) then (if ((rdOf eB_ x3 x10).size : Int) ≤ ((rdOf eB_ x3 x7).size : Int) then (if x10 < (x6.length : Int) then (if x7 < (x6.length : Int) then (if x409000.length < 4398046511104 then (impl_Trie_press.l0 k x3 (x6.set (x7 : Int).toNat (x409000.length : Int)) x22 x23 (wrap64 (x24 + 1)) x400000 (x409000 ++ [(⟨(rdOf eB_ x3 x7).extract (((rdOf eB_ x3 x10).size : Int) : Int).toNat (rdOf eB_ x3 x7).size, rd x6 x10, x413002⟩ : S60)])) else (none)) else (none)) else (none)) else (none)) else (none)) else (none)) else (none)) else (none)) else (none)) else (if 0 ≤ x10 then (if x10 < (x400000.length : Int) then (impl_Trie_press.l1 k x3 x6 x7 ((rd_T76 x400000 x10).f1) x22 x23 x24 x400000 x409000 x413000 x413001 x413002) else (none)) else (none)))
end
def impl_Trie_press.f (k : Nat) (l0_0 : List (S76)) : Option ((List (S60))) := (impl_Trie_prefixes.f k l0_0).bind fun bt401 => (if 0 ≤ (l0_0.length : Int) then (if ((l0_0.length : Int) : Int).toNat ≤ 35184372088832 then (impl_Trie_press.l0 k bt401.1 (List.replicate ((l0_0.length : Int) : Int).toNat 0) l0_0 (l0_0.length : Int) 0 l0_0 ([] : List (S60))) else (none)) else (none))
theorem impl_Trie_press.mono_l : ∀ k, (∀ y0 y1 y2 y3 y4 y5 y6, LeO (impl_Trie_press.l0 k y0 y1 y2 y3 y4 y5 y6) (impl_Trie_press.l0 (k + 1) y0 y1 y2 y3 y4 y5 y6)) ∧ (∀ y0 y1 y2 y3 y4 y5 y6 y7 y8 y9 y10 y11, LeO (impl_Trie_press.l1 k y0 y1 y2 y3 y4 y5 y6 y7 y8 y9 y10 y11) (impl_Trie_press.l1 (k + 1) y0 y1 y2 y3 y4 y5 y6 y7 y8 y9 y10 y11))
 | 0 => ⟨fun _ _ _ _ _ _ _ r h => by simp [impl_Trie_press.l0] at h, fun _ _ _ _ _ _ _ _ _ _ _ _ r h => by simp [impl_Trie_press.l1] at h⟩
 | k + 1 => by
  obtain ⟨ih0, ih1⟩ := impl_Trie_press.mono_l k
  refine ⟨?_, ?_⟩
  ·
   intro y0 y1 y2 y3 y4 y5 y6
   unfold impl_Trie_press.l0
   repeat' with_reducible first | exact ih0 _ _ _ _ _ _ _ | exact ih1 _ _ _ _ _ _ _ _ _ _ _ _ | exact impl_Trie_prefixes.mono _ _ | exact impl_Trie_stays.mono _ _ _ | exact l3_ _ | exact l0_ _ | refine l2_ ?_ ?_ | refine l1_ ?_ (fun _ => ?_)
  intro y0 y1 y2 y3 y4 y5 y6 y7 y8 y9 y10 y11
  unfold impl_Trie_press.l1
  repeat' with_reducible first | exact ih0 _ _ _ _ _ _ _ | exact ih1 _ _ _ _ _ _ _ _ _ _ _ _ | exact impl_Trie_prefixes.mono _ _ | exact impl_Trie_stays.mono _ _ _ | exact l3_ _ | exact l0_ _ | refine l2_ ?_ ?_ | refine l1_ ?_ (fun _ => ?_)
theorem impl_Trie_press.mono : ∀ a0 k, LeO (impl_Trie_press.f k a0) (impl_Trie_press.f (k + 1) a0) := by
 intro a0 k
 obtain ⟨ih0, ih1⟩ := impl_Trie_press.mono_l k
 unfold impl_Trie_press.f
 repeat' with_reducible first | exact ih0 _ _ _ _ _ _ _ | exact ih1 _ _ _ _ _ _ _ _ _ _ _ _ | exact impl_Trie_prefixes.mono _ _ | exact impl_Trie_stays.mono _ _ _ | exact l3_ _ | exact l0_ _ | refine l2_ ?_ ?_ | refine l1_ ?_ (fun _ => ?_)
def impl_Trie_press.T2 : Bool × List (List Nat × List Nat) := (true, [([], []), ([], []), ([1], [1]), ([2], [2]), ([3, 3], [3]), ([], []), ([5, 0, 0, 5], [0, 5]), ([4, 6, 0, 1, 2, 3, 4, 5, 6], [4])])
def impl_Trie_press.B2 : List Nat := [0, 0, 2, 6, 14, 0, 33, 127]
theorem impl_Trie_press.tab2 : rtab .any (opsOf Tryz.f63 2) = impl_Trie_press.T2 := by kernel_rfl
theorem impl_Trie_press.bits2 : waitsOk impl_Trie_press.T2.2 impl_Trie_press.B2 = true := by kernel_rfl
def impl_Trie_press.T12 : Bool × List (List Nat × List Nat) := (true, [([], []), ([], []), ([0, 1], [0, 1]), ([2], [2]), ([], []), ([], []), ([4, 5], [4, 5]), ([6], [6]), ([7], [7]), ([3, 8], [3, 8]), ([], []), ([], []), ([10, 11], [10, 11]), ([12], [12]), ([0, 1, 2, 3, 4, 5, 6, 7, 8, 9], []), ([14, 9, 0, 1, 2, 3, 4, 5, 6, 7, 8, 9], [9, 14]), ([0, 1, 2, 3, 4, 5, 6, 7, 8, 9, 10, 11, 12, 13, 14, 15], []), ([16, 13, 15, 0, 1, 2, 3, 4, 5, 6, 7, 8, 9, 10, 11, 12, 13, 14, 15], [13, 16])])
def impl_Trie_press.B12 : List Nat := [0, 0, 3, 7, 0, 0, 48, 112, 240, 511, 0, 0, 3072, 7168, 1023, 17407, 65535, 131071]
theorem impl_Trie_press.tab12 : rtab .any (opsOf Tryz.f63 12) = impl_Trie_press.T12 := by kernel_rfl
theorem impl_Trie_press.bits12 : waitsOk impl_Trie_press.T12.2 impl_Trie_press.B12 = true := by kernel_rfl
theorem impl_Trie_press.calls (k : Nat) (A0_0 : Option Addr) (c0_0 : Nat) (l0_0 : List (S76)) (r : List (S60)) (w : World) (hr0_0 : Kd.C k76 w A0_0 l0_0.length l0_0) (hc0_0 : l0_0.length ≤ c0_0) (h : impl_Trie_press.f k l0_0 = some r) :
  Calls Tryz.prog 63 #[.agg #[.slice A0_0 l0_0.length c0_0]] w fun e w' => ∃ v0_ : Value, e = .returned (.agg #[v0_]) ∧ Kd.R k60 60 w' w.heap.size (fun _ => True) v0_ r ∧ Below w.heap.size w w' := by
 have hu36 := Tryz.underlying36
 have hu30 := Tryz.underlying30
 have hu76 := Tryz.underlying76
 have hu60 := Tryz.underlying60
 have HR0_0 := aM_ hr0_0
 have HC0_0 := aM_ hc0_0
 clear hr0_0 hc0_0
 have HB := aM_ (Below.refl w.heap.size w)
 have H : ((impl_Trie_prefixes.f k l0_0).bind fun bt401 => (if 0 ≤ (l0_0.length : Int) then (if ((l0_0.length : Int) : Int).toNat ≤ 35184372088832 then (impl_Trie_press.l0 k bt401.1 (List.replicate ((l0_0.length : Int) : Int).toNat 0) l0_0 (l0_0.length : Int) 0 l0_0 ([] : List (S60))) else (none)) else (none))) = some r := h
 clear h
 replace H := oB_.mp H
 obtain ⟨⟨t401, t404⟩, A20, H⟩ := H
 try dsimp only at H
 have A2 := aM_ A20
 clear A20
 by_cases c3 : 0 ≤ (l0_0.length : Int)
 rotate_left
 ·
  rw [if_neg c3] at H
  exact absurd H (by simp)
 rw [if_pos c3] at H
 have c3b0 := eq_true c3
 have c3b1 := decide_eq_true c3
 clear c3
 by_cases c4 : ((l0_0.length : Int) : Int).toNat ≤ 35184372088832
 rotate_left
 ·
  rw [if_neg c4] at H
  exact absurd H (by simp)
 rw [if_pos c4] at H
 have c4b0 := eq_true c4
 have c4b1 := decide_eq_true c4
 clear c4
 obtain ⟨y405, hy405⟩ : ∃ y_ : List Int, y_ = (List.replicate ((l0_0.length : Int) : Int).toNat 0) := ⟨_, rfl⟩
 replace H : (impl_Trie_press.l0 k t401 y405 l0_0 (l0_0.length : Int) 0 l0_0 ([] : List (S60))) = some r := by (try rw [hy405]); first | with_reducible exact H | with_reducible exact (Option.bind_some _ _).symm.trans H | exact H
 have Ny405 := aM_ hy405
 clear hy405
 have H' := aM_ H
 clear H
 go_enter Tryz.func63, Tryz.ntmps63
 try go_wp2_with (first | (refine bx_ 1 #[.slice A0_0 l0_0.length c0_0] 36 (by with_reducible rfl) rfl (by go_simp; done) ?_; intro gb399 hg w5 hbox hb; have BK399 := aM_ (hbox); have GW399 := gw_ hg HB; replace HB := b4_ HB hb; clear hb hbox hg) | (refine bx_ 2 #[.slice none 0 0] 30 (by with_reducible rfl) rfl (by go_simp; done) ?_; intro gb400 hg w6 hbox hb; have BK400 := aM_ (hbox); have GW400 := gw_ hg HB; replace HB := b4_ HB hb; have NB399_400 := nb_ hg BK399; have NB400_399 := ns_ NB399_400; replace BK399 := b5_ BK399 hb; clear hb hbox hg; have hnb7 := NB399_400.out; have hnc7 := NB400_399.out; have hcz8_0 := c0_ BK399; have hfz8_0 := bF_ BK399.out 0) | ((with_reducible refine gC_ (f := 83) rfl ?_); refine goesL_ (some 13) rfl rfl Tryz.func83 (by kernel_rfl) rfl #[.agg #[.slice A0_0 l0_0.length c0_0]] rfl (by (try simp only [sD_, sE_, sF_]); rfl) ?_; (with_reducible refine (impl_Trie_prefixes.calls k _ _ l0_0 t401 t404 _ ?side1 HC0_0.out A2.out).mono ?_); (case side1 => repeat (first | exact (k4_ HR0_0.out HB.out) | with_reducible first | apply Kd.C_alloc | apply Kd.C_drewN | apply Kd.C_drew)); rintro e w9 ⟨v402, rfl, ho0, hb⟩; refine ⟨_, rfl, ?_⟩; have HO403 := aM_ (k5_ ho0 (bZ_ HB.out)); replace BK399 := b5_ BK399 hb; replace BK400 := b5_ BK400 hb; replace HB := b4_ HB hb; (try clear hb); (try clear ho0)))
 have n0_ := aM_ (k3_ HO403.out)
 have n1_ := aM_ (b1_ BK399.out)
 have n2_ := aM_ (b1_ BK400.out)
 have n3_ := aM_ (bD_ HB.out)
 clear HO403
 clear BK399
 clear BK400
 clear HB
 have HO403 := n0_
 have BK399 := n1_
 have BK400 := n2_
 have HB := n3_
 clear n0_ n1_ n2_ n3_
 refine start_ (n := 8) (S := fun w' => w'.cell? ⟨gb399, 0, none⟩ = some (.slice A0_0 l0_0.length c0_0)) (ds := []) #[fy, fy, fy, fy, fy, fy, fy, fy] (by kernel_rfl) rfl rfl ((bC_ BK399.out 0).trans rfl) (fun hHeld => ?_); refine with_tabW impl_Trie_press.tab2 impl_Trie_press.bits2 (fun HT_ HW_ => ?_)
 generalize w9.drew = w10 at HO403 BK399 BK400 HB hHeld ⊢
 refine pu_ HT_ 0 16 #[ty, fy, fy, fy, fy, fy, fy, fy] (by kernel_rfl) rfl rfl (fun _ _ _ h => h) (by rfl) (by intro w'; go_simp; with_reducible rfl) (by simp only [Act.put, sA_, sB_, sC_, i6_, i3_]; rfl) ?_
 refine pu_ HT_ 1 17 #[ty, ty, fy, fy, fy, fy, fy, fy] (by kernel_rfl) rfl rfl (fun _ _ _ h => h) (by rfl) (by intro w'; go_simp; with_reducible rfl) (by simp only [Act.put, sA_, sB_, sC_, i6_, i3_]; rfl) ?_
 refine take_ (i := 2) (N := some 18) (v := ?_) (a' := ?_) #[ty, ty, ty, fy, fy, fy, fy, fy] rfl rfl (tW_ HT_.out HW_.out (by kernel_rfl)) (fun _ _ _ h => h) (Or.inl ⟨by rfl, ?_⟩) hHeld ?_ ?_; rotate_left; (intro w' s0; go_simp; with_reducible rfl); rotate_left; (simp only [Act.put, sA_, sB_, sC_, i6_, i3_]; rfl)
 refine pu_ HT_ 3 19 #[ty, ty, ty, ty, fy, fy, fy, fy] (by kernel_rfl) rfl rfl (fun _ _ _ h => h) (by rfl) (by intro w'; go_simp; with_reducible rfl) (by simp only [Act.put, sA_, sB_, sC_, i6_, i3_]; rfl) ?_
 refine join_ (σ := Value × Nat) 1 #[ty, ty, ty, ty, ty, ty, ty, fy] (fun s_ => [(20, s_.1), (5, .pointer (some ⟨s_.2, 0, none⟩))]) (fun s_ w' => (w'.cell? ⟨gb399, 0, none⟩ = some (.slice A0_0 l0_0.length c0_0)) ∧ (Kd.R Kd.string 9 w' w.heap.size (fun _ => True) v402 t401) ∧ (Kd.R (Kd.int .i64) 3 w' w.heap.size (fun _ => True) s_.1 y405) ∧ (w'.heap[gb399]? = some (.cells #[.slice A0_0 l0_0.length c0_0] 36 (0, 0))) ∧ (w'.heap[gb400]? = some (.cells #[.slice none 0 0] 30 (0, 0))) ∧ (w'.heap[s_.2]? = some (.cells #[.slice none 0 0] 30 (0, 0))) ∧ (w.heap.size ≤ s_.2) ∧ (w.heap.size ≤ s_.2) ∧ (gb399 ≠ s_.2) ∧ (s_.2 ≠ gb399) ∧ (gb400 ≠ s_.2) ∧ (s_.2 ≠ gb400) ∧ (Below w.heap.size w w')) ?_ ?_
 rotate_left
 ·
  intro hCont
  refine two_ (i := 4) (j := 5) (Ni := some 20) (Nj := some 5) #[ty, ty, ty, ty, ty, fy, fy, fy] #[ty, ty, ty, ty, fy, ty, fy, fy] rfl rfl rfl rfl (two_of HT_.out (by kernel_rfl)) (by decide) (by decide) (fun K hK => ?_) (fun K hK => ?_)
  ·
   skip
   refine Kd.R_make_step (Kd.int .i64) _ 3 (by rfl) (N := 20) rfl 87 _ _ rfl (l0_0.length : Int) rfl rfl Tryz.underlying87 (.int .i64 0) 8 info3 rfl (by decide) (by omega) 0 (ok := fun _ => True) (okp := fun _ => True) rfl (fun _ hk => hk) trivial (of_decide_eq_true ‹_›) (Nat.le_trans (Nat.mul_le_mul_right _ (of_decide_eq_true ‹_› : (l0_0.length : Int).toNat ≤ 35184372088832)) (by omega)) (Below.refl _ _) (Nat.le_refl _) ?_
   intro v406 w11 ho12 hb hg_ hnew_
   clear hg_ hnew_
   (rw [← Ny405.out] at ho12)
   have n0_ := k9_ HO403 hb
   have n1_ := aM_ (k5_ ho12 (bZ_ HB.out))
   have n2_ := b5_ BK399 hb
   have n3_ := b5_ BK400 hb
   have n4_ := b4_ HB hb
   clear HO403
   clear BK399
   clear BK400
   clear HB
   have HO403 := n0_
   have HO407 := n1_
   have BK399 := n2_
   have BK400 := n3_
   have HB := n4_
   clear n0_ n1_ n2_ n3_ n4_
   clear hb ho12
   refine hK.out _ _ ((bC_ BK399.out 0).trans rfl) (fun hHeld => ?_)
   clear hK K
   refine norm_ (by show Act.put _ (some 20) _ = _; simp only [Act.put, sA_, sB_, sC_, i6_, i3_]; rfl) ?_
   refine one_ (i := 5) (N := some 5) #[ty, ty, ty, ty, ty, ty, fy, fy] rfl rfl (one_of HT_.out (by kernel_rfl)) (by decide) (fun K hK => ?_)
   refine box_step ?hg (N := 5) ?hd (cs := #[.slice none 0 0]) (t := 30) ?hr ?_; (case hd => rfl); (case hg => rfl); (case hr => (go_simp; done))
   intro gb408 hg w13 hbox hb
   have n0_ := k9_ HO403 hb
   have n1_ := k9_ HO407 hb
   have n2_ := b5_ BK399 hb
   have n3_ := b5_ BK400 hb
   have n4_ := b4_ HB hb
   have n5_ := aM_ (hbox)
   have n6_ := gw_ hg HB
   have n7_ := gw_ hg HB
   have n8_ := nb_ hg BK399
   have n9_ := aM_ ((by rw [hg]; exact Nat.ne_of_gt (bL_ BK399.out) : gb408 ≠ gb399))
   have n10_ := nb_ hg BK400
   have n11_ := aM_ ((by rw [hg]; exact Nat.ne_of_gt (bL_ BK400.out) : gb408 ≠ gb400))
   clear HO403
   clear HO407
   clear BK399
   clear BK400
   clear HB
   have HO403 := n0_
   have HO407 := n1_
   have BK399 := n2_
   have BK400 := n3_
   have HB := n4_
   have BK408 := n5_
   have GW408 := n6_
   have GW408 := n7_
   have NB399_408 := n8_
   have NB408_399 := n9_
   have NB400_408 := n10_
   have NB408_400 := n11_
   clear n0_ n1_ n2_ n3_ n4_ n5_ n6_ n7_ n8_ n9_ n10_ n11_
   clear hb hbox hg
   refine hK.out _ _ ((bC_ BK399.out 0).trans rfl) (fun hHeld => ?_)
   clear hK K
   refine norm_ (by show Act.put _ (some 5) _ = _; simp only [Act.put, sA_, sB_, sC_, i6_, i3_]; rfl) ?_
   refine one_ (i := 6) (N := none) #[ty, ty, ty, ty, ty, ty, ty, fy] rfl rfl (one_of HT_.out (by kernel_rfl)) (by decide) (fun K hK => ?_)
   have hs14 : w13.cell? ⟨gb408, 0, none⟩ = some (.slice none 0 0) := (bC_ BK408.out 0).trans rfl
   have hfs14 := bF_ BK408.out 0
   have hns14_0 := NB399_408.out
   have hns14_1 := NB400_408.out
   have hms14_0 := NB408_399.out
   have hms14_1 := NB408_400.out
   refine skip_ (w1 := ?_) (by rfl) rfl ?_ ?_
   rotate_left
   ·
    go_simp
    rfl
   refine hK.out _ _ (((cF_ (p := ⟨gb408, _, none⟩) NB399_408.out _).trans (hHeld))) (fun hHeld => ?_)
   clear hK K
   exact norm_ (by simp only [putAll, Act.put, sA_, sB_, sC_]) (hCont (v406, gb408) _ ⟨hHeld, (by exact kM_ (kG_ (kT_ HO403.out BK408.out (by decide))) (fun _ hk => trivial)), (by exact kM_ (kG_ (kT_ HO407.out BK408.out (by decide))) (fun _ hk => trivial)), (by exact br_ NB399_408.out (BK399.out)), (by exact br_ NB400_408.out (BK400.out)), (by refine bP_ (cs := #[.slice none 0 0]) ?_ 0 _ rfl; exact BK408.out), GW408.out, GW408.out, NB399_408.out, NB408_399.out, NB400_408.out, NB408_400.out, (by repeat with_reducible first | exact HB.out | apply bA_ | apply bN_ | apply bD_ | refine bS_ ?_ (Aside0.out ‹_›))⟩)
  skip
  refine box_step ?hg (N := 5) ?hd (cs := #[.slice none 0 0]) (t := 30) ?hr ?_; (case hd => rfl); (case hg => rfl); (case hr => (go_simp; done))
  intro gb408 hg w11 hbox hb
  have n0_ := k9_ HO403 hb
  have n1_ := b5_ BK399 hb
  have n2_ := b5_ BK400 hb
  have n3_ := b4_ HB hb
  have n4_ := aM_ (hbox)
  have n5_ := gw_ hg HB
  have n6_ := gw_ hg HB
  have n7_ := nb_ hg BK399
  have n8_ := aM_ ((by rw [hg]; exact Nat.ne_of_gt (bL_ BK399.out) : gb408 ≠ gb399))
  have n9_ := nb_ hg BK400
  have n10_ := aM_ ((by rw [hg]; exact Nat.ne_of_gt (bL_ BK400.out) : gb408 ≠ gb400))
  clear HO403
  clear BK399
  clear BK400
  clear HB
  have HO403 := n0_
  have BK399 := n1_
  have BK400 := n2_
  have HB := n3_
  have BK408 := n4_
  have GW408 := n5_
  have GW408 := n6_
  have NB399_408 := n7_
  have NB408_399 := n8_
  have NB400_408 := n9_
  have NB408_400 := n10_
  clear n0_ n1_ n2_ n3_ n4_ n5_ n6_ n7_ n8_ n9_ n10_
  clear hb hbox hg
  refine hK.out _ _ ((bC_ BK399.out 0).trans rfl) (fun hHeld => ?_)
  clear hK K
  refine norm_ (by show Act.put _ (some 5) _ = _; simp only [Act.put, sA_, sB_, sC_, i6_, i3_]; rfl) ?_
  refine two_ (i := 4) (j := 6) (Ni := some 20) (Nj := none) #[ty, ty, ty, ty, ty, ty, fy, fy] #[ty, ty, ty, ty, fy, ty, ty, fy] rfl rfl rfl rfl (two_of HT_.out (by kernel_rfl)) (by decide) (by decide) (fun K hK => ?_) (fun K hK => ?_)
  ·
   skip
   refine Kd.R_make_step (Kd.int .i64) _ 3 (by rfl) (N := 20) rfl 87 _ _ rfl (l0_0.length : Int) rfl rfl Tryz.underlying87 (.int .i64 0) 8 info3 rfl (by decide) (by omega) 0 (ok := fun _ => True) (okp := fun _ => True) rfl (fun _ hk => hk) trivial (of_decide_eq_true ‹_›) (Nat.le_trans (Nat.mul_le_mul_right _ (of_decide_eq_true ‹_› : (l0_0.length : Int).toNat ≤ 35184372088832)) (by omega)) (Below.refl _ _) (Nat.le_refl _) ?_
   intro v406 w12 ho13 hb hg_ hnew_
   clear hg_ hnew_
   (rw [← Ny405.out] at ho13)
   have n0_ := k9_ HO403 hb
   have n1_ := aM_ (k5_ ho13 (bZ_ HB.out))
   have n2_ := b5_ BK399 hb
   have n3_ := b5_ BK400 hb
   have n4_ := b5_ BK408 hb
   have n5_ := b4_ HB hb
   clear HO403
   clear BK399
   clear BK400
   clear BK408
   clear HB
   have HO403 := n0_
   have HO407 := n1_
   have BK399 := n2_
   have BK400 := n3_
   have BK408 := n4_
   have HB := n5_
   clear n0_ n1_ n2_ n3_ n4_ n5_
   clear hb ho13
   refine hK.out _ _ ((bC_ BK399.out 0).trans rfl) (fun hHeld => ?_)
   clear hK K
   refine norm_ (by show Act.put _ (some 20) _ = _; simp only [Act.put, sA_, sB_, sC_, i6_, i3_]; rfl) ?_
   refine one_ (i := 6) (N := none) #[ty, ty, ty, ty, ty, ty, ty, fy] rfl rfl (one_of HT_.out (by kernel_rfl)) (by decide) (fun K hK => ?_)
   have hs14 : w12.cell? ⟨gb408, 0, none⟩ = some (.slice none 0 0) := (bC_ BK408.out 0).trans rfl
   have hfs14 := bF_ BK408.out 0
   have hns14_0 := NB399_408.out
   have hns14_1 := NB400_408.out
   have hms14_0 := NB408_399.out
   have hms14_1 := NB408_400.out
   refine skip_ (w1 := ?_) (by rfl) rfl ?_ ?_
   rotate_left
   ·
    go_simp
    rfl
   refine hK.out _ _ (((cF_ (p := ⟨gb408, _, none⟩) NB399_408.out _).trans (hHeld))) (fun hHeld => ?_)
   clear hK K
   exact norm_ (by simp only [putAll, Act.put, sA_, sB_, sC_]) (hCont (v406, gb408) _ ⟨hHeld, (by exact kM_ (kG_ (kT_ HO403.out BK408.out (by decide))) (fun _ hk => trivial)), (by exact kM_ (kG_ (kT_ HO407.out BK408.out (by decide))) (fun _ hk => trivial)), (by exact br_ NB399_408.out (BK399.out)), (by exact br_ NB400_408.out (BK400.out)), (by refine bP_ (cs := #[.slice none 0 0]) ?_ 0 _ rfl; exact BK408.out), GW408.out, GW408.out, NB399_408.out, NB408_399.out, NB400_408.out, NB408_400.out, (by repeat with_reducible first | exact HB.out | apply bA_ | apply bN_ | apply bD_ | refine bS_ ?_ (Aside0.out ‹_›))⟩)
  skip
  have hs12 : w11.cell? ⟨gb408, 0, none⟩ = some (.slice none 0 0) := (bC_ BK408.out 0).trans rfl
  have hfs12 := bF_ BK408.out 0
  have hns12_0 := NB399_408.out
  have hns12_1 := NB400_408.out
  have hms12_0 := NB408_399.out
  have hms12_1 := NB408_400.out
  refine skip_ (w1 := ?_) (by rfl) rfl ?_ ?_
  rotate_left
  ·
   go_simp
   rfl
  refine hK.out _ _ (((cF_ (p := ⟨gb408, _, none⟩) NB399_408.out _).trans (hHeld))) (fun hHeld => ?_)
  clear hK K
  refine one_ (i := 4) (N := some 20) #[ty, ty, ty, ty, ty, ty, ty, fy] rfl rfl (one_of HT_.out (by kernel_rfl)) (by decide) (fun K hK => ?_)
  refine Kd.R_make_step (Kd.int .i64) _ 3 (by rfl) (N := 20) rfl 87 _ _ rfl (l0_0.length : Int) rfl rfl Tryz.underlying87 (.int .i64 0) 8 info3 rfl (by decide) (by omega) 0 (ok := fun _ => True) (okp := fun _ => True) rfl (fun _ hk => hk) trivial (of_decide_eq_true ‹_›) (Nat.le_trans (Nat.mul_le_mul_right _ (of_decide_eq_true ‹_› : (l0_0.length : Int).toNat ≤ 35184372088832)) (by omega)) (Below.refl _ _) (Nat.le_refl _) ?_
  intro v406 w13 ho14 hb hg_ hnew_
  clear hg_ hnew_
  (rw [← Ny405.out] at ho14)
  have n0_ := aM_ (kB_ (by exact (kM_ (kG_ (kT_ HO403.out BK408.out (by decide))) (fun _ h_ => h_.1))) hb)
  have n1_ := aM_ (k5_ ho14 (bZ_ (by repeat with_reducible first | exact HB.out | apply bA_ | apply bN_ | apply bD_ | refine bS_ ?_ (Aside0.out ‹_›))))
  have n2_ := aM_ (bB_ (g := gb399) (o := .cells #[.slice A0_0 l0_0.length c0_0] 36 (0, 0)) (by exact br_ NB399_408.out (BK399.out)) hb)
  have n3_ := aM_ (bB_ (g := gb400) (o := .cells #[.slice none 0 0] 30 (0, 0)) (by exact br_ NB400_408.out (BK400.out)) hb)
  have n4_ := aM_ (bB_ (g := gb408) (o := .cells #[.slice none 0 0] 30 (0, 0)) (by refine bP_ (cs := #[.slice none 0 0]) ?_ 0 _ rfl; exact BK408.out) hb)
  have n5_ := aM_ (bT_ (by repeat with_reducible first | exact HB.out | apply bA_ | apply bN_ | apply bD_ | refine bS_ ?_ (Aside0.out ‹_›)) hb)
  clear HO403
  clear BK399
  clear BK400
  clear BK408
  clear HB
  have HO403 := n0_
  have HO407 := n1_
  have BK399 := n2_
  have BK400 := n3_
  have BK408 := n4_
  have HB := n5_
  clear n0_ n1_ n2_ n3_ n4_ n5_
  clear hb ho14
  refine hK.out _ _ ((bC_ BK399.out 0).trans rfl) (fun hHeld => ?_)
  clear hK K
  refine norm_ (by show Act.put _ (some 20) _ = _; simp only [Act.put, sA_, sB_, sC_, i6_, i3_]; rfl) ?_
  exact norm_ (by simp only [putAll, Act.put, sA_, sB_, sC_]) (hCont (v406, gb408) _ ⟨hHeld, HO403.out, HO407.out, BK399.out, BK400.out, BK408.out, GW408.out, GW408.out, NB399_408.out, NB408_399.out, NB400_408.out, NB408_400.out, HB.out⟩)
 rintro ⟨v406, gb408⟩ w15 ⟨hS_, h0_, h1_, h2_, h3_, h4_, h5_, h6_, h7_, h8_, h9_, h10_, h11_⟩
 have n0_ : Aside0 (Kd.R Kd.string 9 w15 w.heap.size (fun _ => True) v402 t401) := ⟨h0_⟩
 have n1_ : Aside0 (Kd.R (Kd.int .i64) 3 w15 w.heap.size (fun _ => True) v406 y405) := ⟨h1_⟩
 have n2_ : Aside0 (w15.heap[gb399]? = some (.cells #[.slice A0_0 l0_0.length c0_0] 36 (0, 0))) := ⟨h2_⟩
 have n3_ : Aside0 (w15.heap[gb400]? = some (.cells #[.slice none 0 0] 30 (0, 0))) := ⟨h3_⟩
 have n4_ : Aside0 (w15.heap[gb408]? = some (.cells #[.slice none 0 0] 30 (0, 0))) := ⟨h4_⟩
 have n5_ : Aside0 (w.heap.size ≤ gb408) := ⟨h5_⟩
 have n6_ : Aside0 (w.heap.size ≤ gb408) := ⟨h6_⟩
 have n7_ : Aside0 (gb399 ≠ gb408) := ⟨h7_⟩
 have n8_ : Aside0 (gb408 ≠ gb399) := ⟨h8_⟩
 have n9_ : Aside0 (gb400 ≠ gb408) := ⟨h9_⟩
 have n10_ : Aside0 (gb408 ≠ gb400) := ⟨h10_⟩
 have n11_ : Aside0 (Below w.heap.size w w15) := ⟨h11_⟩
 clear HO403
 clear BK399
 clear BK400
 clear HB
 clear h0_ h1_ h2_ h3_ h4_ h5_ h6_ h7_ h8_ h9_ h10_ h11_
 have HO403 := n0_
 have HO407 := n1_
 have BK399 := n2_
 have BK400 := n3_
 have BK408 := n4_
 have GW408 := n5_
 have GW408 := n6_
 have NB399_408 := n7_
 have NB408_399 := n8_
 have NB400_408 := n9_
 have NB408_400 := n10_
 have HB := n11_
 clear n0_ n1_ n2_ n3_ n4_ n5_ n6_ n7_ n8_ n9_ n10_ n11_
 have hHeld : w15.cell? ⟨gb399, 0, none⟩ = some (.slice A0_0 l0_0.length c0_0) := hS_
 refine norm_ (a' := ?_) ?_ ?_
 rotate_left
 ·
  simp only [putAll, Act.put, sA_, sB_, sC_]
  rfl
 refine pu_ HT_ 7 6 #[ty, ty, ty, ty, ty, ty, ty, ty] (by kernel_rfl) rfl rfl (fun _ _ _ h => h) (by rfl) (by intro w'; go_simp; with_reducible rfl) (by simp only [Act.put, sA_, sB_, sC_, i6_, i3_]; rfl) ?_
 refine done_ (done_of HT_.out (by kernel_rfl)) ?_
 have hnb16 := NB399_408.out
 have hnc16 := NB408_399.out
 have hcz17_0 := c0_ BK399
 have hfz17_0 := bF_ BK399.out 0
 try go_wp2
 go_loopg [24] k (fun kq v24 w' => ∃ (x6_1 : List Int) (x24_1 : Int) (x409000_1 : List (S60)) (u409000 : Value), v24 = .int .i64 x24_1 ∧ Aside0 (impl_Trie_press.l0 kq t401 x6_1 l0_0 (l0_0.length : Int) x24_1 l0_0 x409000_1 = some r) ∧ Aside0 (kq ≤ k) ∧ Aside0 (Kd.R Kd.string 9 w' w.heap.size (fun _ => True) v402 t401) ∧ Aside0 (Kd.R (Kd.int .i64) 3 w' w.heap.size (fun _ => True) v406 x6_1) ∧ Aside0 (Kd.R k60 60 w' w.heap.size (fun _ => True) u409000 x409000_1) ∧ Aside0 (w'.heap[gb399]? = some (.cells #[(.slice A0_0 l0_0.length c0_0)] 36 (0, 0))) ∧ Aside0 (w'.heap[gb400]? = some (.cells #[(.slice none 0 0)] 30 (0, 0))) ∧ Aside0 (w'.heap[gb408]? = some (.cells #[u409000] 30 (0, 0))) ∧ Aside0 (Below w.heap.size w w'))
 case atStart => exact ⟨(y405), (0), (([] : List (S60))), (.slice none 0 0), (by rfl), H', ⟨Nat.le_refl _⟩, ⟨HO403.out⟩, ⟨HO407.out⟩, ⟨by exact Kd.R_nil _ _ _ _ _⟩, ⟨BK399.out⟩, ⟨BK400.out⟩, ⟨BK408.out⟩, ⟨HB.out⟩⟩
 case round =>
  clear H'
  try clear p2
  try clear c3b0
  try clear c3b1
  try clear c4b0
  try clear c4b1
  try clear hcz17_0
  try clear hcz8_0
  try clear hfz17_0
  try clear hfz8_0
  obtain ⟨x6_1, x24_1, x409000_1, u409000, rfl, HA, HK1, HO_3, HO_6, HO_409000, BK399, BK400, BK408, HB⟩ := hrel
  cases gk with
  | zero => exact absurd HA.out (by simp [impl_Trie_press.l0])
  | succ k1 =>
   have H := HA.out
   clear HA
   simp only [impl_Trie_press.l0] at H
   by_cases c18 : x24_1 < (l0_0.length : Int)
   rotate_left
   ·
    rw [if_neg c18] at H
    have c18b0 := decide_eq_false c18
    clear c18
    obtain rfl := Option.some.inj H
    have hnb127 := NB408_399.out
    have hnc127 := NB399_408.out
    have hnb128 := NB408_400.out
    have hnc128 := NB400_408.out
    have hcz129_0 := c0_ BK408
    have hfz129_0 := bF_ BK408.out 0
    obtain ⟨Ao130, co130, eo130⟩ := kS_ HO_409000.out
    subst eo130
    have hnb131 := NB400_399.out
    have hnc131 := NB399_400.out
    have hcz132_0 := c0_ BK400
    have hfz132_0 := bF_ BK400.out 0
    go_wp2
    refine bodyPost_ret (results_cell_row rfl _ _ gb400 30 #[.slice Ao130 x409000_1.length co130] (0, 0) _ rfl (by refine bP_ (cs := #[.slice none 0 0]) ?_ 0 _ rfl; exact BK400.out) Tryz.underlying30 rfl (by kernel_rfl)) rfl ?_
    exact ⟨_, by rfl, by exact kM_ (kG_ (kT_ HO_409000.out BK400.out (by decide))) (fun _ hk => trivial), by repeat with_reducible first | exact HB.out | apply bA_ | apply bN_ | apply bD_ | refine bS_ ?_ (Aside0.out ‹_›)⟩
   rw [if_pos c18] at H
   have c18b0 := decide_eq_true c18
   clear c18
   by_cases c19 : 0 ≤ x24_1
   rotate_left
   ·
    rw [if_neg c19] at H
    exact absurd H (by simp)
   rw [if_pos c19] at H
   have c19b0 := decide_eq_true c19
   clear c19
   by_cases c20 : x24_1 < (l0_0.length : Int)
   rotate_left
   ·
    rw [if_neg c20] at H
    exact absurd H (by simp)
   rw [if_pos c20] at H
   have c20b0 := decide_eq_true c20
   clear c20
   replace H := oB_.mp H
   obtain ⟨t411, A210, H⟩ := H
   try dsimp only at H
   have A21 := aM_ A210
   clear A210
   by_cases c22 : t411 = true
   rotate_left
   ·
    replace c22 := Bool.eq_false_iff.mpr c22
    subst c22
    replace H : (impl_Trie_press.l0 k1 t401 x6_1 l0_0 (l0_0.length : Int) (wrap64 (x24_1 + 1)) l0_0 x409000_1) = some r := by rw [if_neg (show ¬ (false = true) by decide)] at H; exact H
    have H' := aM_ H
    clear H
    have p409 : 0 ≤ (x24_1 : Int) := of_decide_eq_true ‹_›
    have q409 : x24_1 < (l0_0.length : Int) := of_decide_eq_true ‹_›
    obtain ⟨ad409, e409, hx409_0, hx409_1, hx409_2⟩ := at_T76 HR0_0.out x24_1 p409 q409
    cases e409
    replace hx409_0 := cb_ HB hx409_0
    replace hx409_1 := cb_ HB hx409_1
    replace hx409_2 := cb_ HB hx409_2
    replace p409 := eq_true p409
    replace q409 := eq_true q409
    go_wp2_with (first | (refine bx_ 8 #[.int .i64 0, .int .i64 0, .bool false] 76 (by with_reducible rfl) rfl (by go_simp; done) ?_; intro gb410 hg w118 hbox hb; replace HO_3 := k9_ HO_3 hb; replace HO_6 := k9_ HO_6 hb; replace HO_409000 := k9_ HO_409000 hb; have BK410 := aM_ (hbox); have GW410 := gw_ hg HB; replace HB := b4_ HB hb; have NB399_410 := nb_ hg BK399; have NB410_399 := ns_ NB399_410; replace BK399 := b5_ BK399 hb; have NB400_410 := nb_ hg BK400; have NB410_400 := ns_ NB400_410; replace BK400 := b5_ BK400 hb; have NB408_410 := nb_ hg BK408; have NB410_408 := ns_ NB408_410; replace BK408 := b5_ BK408 hb; clear hb hbox hg; have hnb119 := NB410_399.out; have hnc119 := NB399_410.out; have hnb120 := NB410_400.out; have hnc120 := NB400_410.out; have hnb121 := NB410_408.out; have hnc121 := NB408_410.out; have hcz122_0 := c0_ BK410; have hcz122_1 := c1_ BK410; have hcz122_2 := c2_ BK410; have hfz122_0 := bF_ BK410.out 0; have hfz122_1 := bF_ BK410.out 1; have hfz122_2 := bF_ BK410.out 2; have hnb123 := NB399_400.out; have hnc123 := NB400_399.out; have hnb124 := NB399_408.out; have hnc124 := NB408_399.out; have hcz125_0 := c0_ BK399; have hfz125_0 := bF_ BK399.out 0) | ((with_reducible refine gC_ (f := 84) rfl ?_); refine goesL_ (some 31) rfl rfl Tryz.func84 (by kernel_rfl) rfl #[.agg #[.slice (some ad409) l0_0.length c0_0], .int .i64 x24_1] rfl (by (try simp only [sD_, sE_, sF_]); rfl) ?_; (with_reducible refine (impl_Trie_stays.calls k1 _ _ l0_0 x24_1 false _ ?side1 HC0_0.out A21.out).mono ?_); (case side1 => exact k4_ HR0_0.out (by repeat with_reducible first | exact HB.out | apply bA_ | apply bN_ | apply bD_ | refine bS_ ?_ (Aside0.out ‹_›))); rintro e w126 ⟨rfl, hb⟩; refine ⟨_, rfl, ?_⟩; replace HO_3 := aM_ (kB_ (by exact (kM_ (kG_ (kG_ (kG_ (kT_ HO_3.out BK410.out (by decide))))) (fun _ h_ => h_.1))) hb); replace HO_6 := aM_ (kB_ (by exact (kM_ (kG_ (kG_ (kG_ (kT_ HO_6.out BK410.out (by decide))))) (fun _ h_ => h_.1))) hb); replace HO_409000 := aM_ (kB_ (by exact (kM_ (kG_ (kG_ (kG_ (kT_ HO_409000.out BK410.out (by decide))))) (fun _ h_ => h_.1))) hb); replace BK399 := aM_ (bB_ (g := gb399) (o := .cells #[.slice (some ad409) l0_0.length c0_0] 36 (0, 0)) (by exact br_ NB399_410.out (br_ NB399_410.out (br_ NB399_410.out (BK399.out)))) hb); replace BK400 := aM_ (bB_ (g := gb400) (o := .cells #[.slice none 0 0] 30 (0, 0)) (by exact br_ NB400_410.out (br_ NB400_410.out (br_ NB400_410.out (BK400.out)))) hb); replace BK408 := aM_ (bB_ (g := gb408) (o := .cells #[u409000] 30 (0, 0)) (by exact br_ NB408_410.out (br_ NB408_410.out (br_ NB408_410.out (BK408.out)))) hb); replace BK410 := aM_ (bB_ (g := gb410) (o := .cells #[.int .i64 ((rd_T76 l0_0 x24_1).f0), .int .i64 ((rd_T76 l0_0 x24_1).f1), .bool ((rd_T76 l0_0 x24_1).f2)] 76 (0, 0)) (by refine bP_ (cs := #[.int .i64 ((rd_T76 l0_0 x24_1).f0), .int .i64 ((rd_T76 l0_0 x24_1).f1), .bool false]) ?_ 2 _ rfl; refine bP_ (cs := #[.int .i64 ((rd_T76 l0_0 x24_1).f0), .int .i64 0, .bool false]) ?_ 1 _ rfl; refine bP_ (cs := #[.int .i64 0, .int .i64 0, .bool false]) ?_ 0 _ rfl; exact BK410.out) hb); replace HB := aM_ (bT_ (by repeat with_reducible first | exact HB.out | apply bA_ | apply bN_ | apply bD_ | refine bS_ ?_ (Aside0.out ‹_›)) hb); (try clear hb)))
    go_roundg k1
    case measure => have := HK1.out; omega
    case rel => exact ⟨(x6_1), (wrap64 (x24_1 + 1)), (x409000_1), (u409000), (by rfl), H', ⟨by have := HK1.out; omega⟩, ⟨HO_3.out⟩, ⟨HO_6.out⟩, ⟨HO_409000.out⟩, ⟨BK399.out⟩, ⟨BK400.out⟩, ⟨BK408.out⟩, ⟨HB.out⟩⟩
   subst c22
   rw [if_pos rfl] at H
   by_cases c23 : x24_1 > 0
   rotate_left
   ·
    rw [if_neg c23] at H
    have c23b0 := decide_eq_false c23
    clear c23
    by_cases c88 : x24_1 < (x6_1.length : Int)
    rotate_left
    ·
     rw [if_neg c88] at H
     exact absurd H (by simp)
    rw [if_pos c88] at H
    have c88b0 := decide_eq_true c88
    clear c88
    obtain ⟨y422, hy422⟩ : ∃ y_ : List Int, y_ = (x6_1.set (x24_1 : Int).toNat (x409000_1.length : Int)) := ⟨_, rfl⟩
    replace H : (if x409000_1.length < 4398046511104 then (impl_Trie_press.l0 k1 t401 y422 l0_0 (l0_0.length : Int) (wrap64 (x24_1 + 1)) l0_0 (x409000_1 ++ [(⟨(⟨#[]⟩ : ByteArray), (-1), (rd_T76 l0_0 x24_1).f2⟩ : S60)])) else (none)) = some r := by (try rw [hy422]); first | with_reducible exact H | with_reducible exact (Option.bind_some _ _).symm.trans H | exact H
    have Ny422 := aM_ hy422
    clear hy422
    by_cases c90 : x409000_1.length < 4398046511104
    rotate_left
    ·
     rw [if_neg c90] at H
     exact absurd H (by simp)
    rw [if_pos c90] at H
    have LMc90 := aM_ c90
    clear c90
    obtain ⟨y423, hy423⟩ : ∃ y_ : List (S60), y_ = (x409000_1 ++ [(⟨(⟨#[]⟩ : ByteArray), (-1), (rd_T76 l0_0 x24_1).f2⟩ : S60)]) := ⟨_, rfl⟩
    replace H : (impl_Trie_press.l0 k1 t401 y422 l0_0 (l0_0.length : Int) (wrap64 (x24_1 + 1)) l0_0 y423) = some r := by (try rw [hy423]); first | with_reducible exact H | with_reducible exact (Option.bind_some _ _).symm.trans H | exact H
    have Ny423 := aM_ hy423
    clear hy423
    have H' := aM_ H
    clear H
    have p409 : 0 ≤ (x24_1 : Int) := of_decide_eq_true ‹_›
    have q409 : x24_1 < (l0_0.length : Int) := of_decide_eq_true ‹_›
    obtain ⟨ad409, e409, hx409_0, hx409_1, hx409_2⟩ := at_T76 HR0_0.out x24_1 p409 q409
    cases e409
    replace hx409_0 := cb_ HB hx409_0
    replace hx409_1 := cb_ HB hx409_1
    replace hx409_2 := cb_ HB hx409_2
    replace p409 := eq_true p409
    replace q409 := eq_true q409
    go_wp2_with (first | (refine bx_ 8 #[.int .i64 0, .int .i64 0, .bool false] 76 (by with_reducible rfl) rfl (by go_simp; done) ?_; intro gb410 hg w91 hbox hb; replace HO_3 := k9_ HO_3 hb; replace HO_6 := k9_ HO_6 hb; replace HO_409000 := k9_ HO_409000 hb; have BK410 := aM_ (hbox); have GW410 := gw_ hg HB; replace HB := b4_ HB hb; have NB399_410 := nb_ hg BK399; have NB410_399 := ns_ NB399_410; replace BK399 := b5_ BK399 hb; have NB400_410 := nb_ hg BK400; have NB410_400 := ns_ NB400_410; replace BK400 := b5_ BK400 hb; have NB408_410 := nb_ hg BK408; have NB410_408 := ns_ NB408_410; replace BK408 := b5_ BK408 hb; clear hb hbox hg; have hnb92 := NB410_399.out; have hnc92 := NB399_410.out; have hnb93 := NB410_400.out; have hnc93 := NB400_410.out; have hnb94 := NB410_408.out; have hnc94 := NB408_410.out; have hcz95_0 := c0_ BK410; have hcz95_1 := c1_ BK410; have hcz95_2 := c2_ BK410; have hfz95_0 := bF_ BK410.out 0; have hfz95_1 := bF_ BK410.out 1; have hfz95_2 := bF_ BK410.out 2; have hnb96 := NB399_400.out; have hnc96 := NB400_399.out; have hnb97 := NB399_408.out; have hnc97 := NB408_399.out; have hcz98_0 := c0_ BK399; have hfz98_0 := bF_ BK399.out 0) | ((with_reducible refine gC_ (f := 84) rfl ?_); refine goesL_ (some 31) rfl rfl Tryz.func84 (by kernel_rfl) rfl #[.agg #[.slice (some ad409) l0_0.length c0_0], .int .i64 x24_1] rfl (by (try simp only [sD_, sE_, sF_]); rfl) ?_; (with_reducible refine (impl_Trie_stays.calls k1 _ _ l0_0 x24_1 true _ ?side1 HC0_0.out A21.out).mono ?_); (case side1 => exact k4_ HR0_0.out (by repeat with_reducible first | exact HB.out | apply bA_ | apply bN_ | apply bD_ | refine bS_ ?_ (Aside0.out ‹_›))); rintro e w99 ⟨rfl, hb⟩; refine ⟨_, rfl, ?_⟩; replace HO_3 := aM_ (kB_ (by exact (kM_ (kG_ (kG_ (kG_ (kT_ HO_3.out BK410.out (by decide))))) (fun _ h_ => h_.1))) hb); replace HO_6 := aM_ (kB_ (by exact (kM_ (kG_ (kG_ (kG_ (kT_ HO_6.out BK410.out (by decide))))) (fun _ h_ => h_.1))) hb); replace HO_409000 := aM_ (kB_ (by exact (kM_ (kG_ (kG_ (kG_ (kT_ HO_409000.out BK410.out (by decide))))) (fun _ h_ => h_.1))) hb); replace BK399 := aM_ (bB_ (g := gb399) (o := .cells #[.slice (some ad409) l0_0.length c0_0] 36 (0, 0)) (by exact br_ NB399_410.out (br_ NB399_410.out (br_ NB399_410.out (BK399.out)))) hb); replace BK400 := aM_ (bB_ (g := gb400) (o := .cells #[.slice none 0 0] 30 (0, 0)) (by exact br_ NB400_410.out (br_ NB400_410.out (br_ NB400_410.out (BK400.out)))) hb); replace BK408 := aM_ (bB_ (g := gb408) (o := .cells #[u409000] 30 (0, 0)) (by exact br_ NB408_410.out (br_ NB408_410.out (br_ NB408_410.out (BK408.out)))) hb); replace BK410 := aM_ (bB_ (g := gb410) (o := .cells #[.int .i64 ((rd_T76 l0_0 x24_1).f0), .int .i64 ((rd_T76 l0_0 x24_1).f1), .bool ((rd_T76 l0_0 x24_1).f2)] 76 (0, 0)) (by refine bP_ (cs := #[.int .i64 ((rd_T76 l0_0 x24_1).f0), .int .i64 ((rd_T76 l0_0 x24_1).f1), .bool false]) ?_ 2 _ rfl; refine bP_ (cs := #[.int .i64 ((rd_T76 l0_0 x24_1).f0), .int .i64 0, .bool false]) ?_ 1 _ rfl; refine bP_ (cs := #[.int .i64 0, .int .i64 0, .bool false]) ?_ 0 _ rfl; exact BK410.out) hb); replace HB := aM_ (bT_ (by repeat with_reducible first | exact HB.out | apply bA_ | apply bN_ | apply bD_ | refine bS_ ?_ (Aside0.out ‹_›)) hb); (try clear hb); have hcz100_0 := c0_ BK410; have hcz100_1 := c1_ BK410; have hcz100_2 := c2_ BK410; have hfz100_0 := bF_ BK410.out 0; have hfz100_1 := bF_ BK410.out 1; have hfz100_2 := bF_ BK410.out 2) | (refine bx_ 9 #[.string (⟨#[]⟩ : ByteArray), .int .i64 0, .bool false] 60 (by with_reducible rfl) rfl (by go_simp; done) ?_; intro gb412 hg w101 hbox hb; replace HO_3 := k9_ HO_3 hb; replace HO_6 := k9_ HO_6 hb; replace HO_409000 := aM_ (kB_ (Kd.R_elderB HO_409000.out gb412 (Nat.le_of_eq hg.symm)) hb); have BK412 := aM_ (hbox); have GW412 := gw_ hg HB; replace HB := b4_ HB hb; have NB399_412 := nb_ hg BK399; have NB412_399 := ns_ NB399_412; replace BK399 := b5_ BK399 hb; have NB400_412 := nb_ hg BK400; have NB412_400 := ns_ NB400_412; replace BK400 := b5_ BK400 hb; have NB408_412 := nb_ hg BK408; have NB412_408 := ns_ NB408_412; replace BK408 := b5_ BK408 hb; have NB410_412 := nb_ hg BK410; have NB412_410 := ns_ NB410_412; replace BK410 := b5_ BK410 hb; clear hb hbox hg; have hnb102 := NB412_399.out; have hnc102 := NB399_412.out; have hnb103 := NB412_400.out; have hnc103 := NB400_412.out; have hnb104 := NB412_408.out; have hnc104 := NB408_412.out; have hnb105 := NB412_410.out; have hnc105 := NB410_412.out; have hcz106_0 := c0_ BK412; have hcz106_1 := c1_ BK412; have hcz106_2 := c2_ BK412; have hfz106_0 := bF_ BK412.out 0; have hfz106_1 := bF_ BK412.out 1; have hfz106_2 := bF_ BK412.out 2) | ((with_reducible refine gate_store (t := 60) (p := 9) rfl ?_); refine store_event (t := 60) (p := 9) (v := ?vo_w107) (w1 := (((w101.setCell ⟨gb412, 0, none⟩ (.string (⟨#[]⟩ : ByteArray))).setCell ⟨gb412, 1, none⟩ (.int .i64 (-1))).setCell ⟨gb412, 2, none⟩ (.bool ((rd_T76 l0_0 x24_1).f2)))) ?hg ?ho ?hn ?hr ?_; (case ho => rfl); (case hg => rfl); (case hn => rfl); (case hr => (go_simp; done)); intro w107 hw; have n0_ : Aside0 (Kd.R Kd.string 9 w107 w.heap.size (fun _ => True) v402 t401) := ⟨(by rw [hw]; exact (by exact kM_ (kG_ (kG_ (kG_ (kT_ HO_3.out BK412.out (by decide))))) (fun _ hk => trivial)))⟩; have n1_ : Aside0 (Kd.R (Kd.int .i64) 3 w107 w.heap.size (fun _ => True) v406 x6_1) := ⟨(by rw [hw]; exact (by exact kM_ (kG_ (kG_ (kG_ (kT_ HO_6.out BK412.out (by decide))))) (fun _ hk => trivial)))⟩; have n2_ : Aside0 (Kd.R k60 60 w107 w.heap.size (fun k_ => k_ ≠ gb412) u409000 x409000_1) := ⟨(by rw [hw]; exact (by exact kM_ (kF_ (p := ⟨gb412, 2, none⟩) (kF_ (p := ⟨gb412, 1, none⟩) (kF_ (p := ⟨gb412, 0, none⟩) (kM_ HO_409000.out (fun k_ hk => (⟨hk, hk.2⟩ : _ ∧ k_ ≠ gb412))) (fun _ hk => hk.2) (.string (⟨#[]⟩ : ByteArray))) (fun _ hk => hk.2) (.int .i64 (-1))) (fun _ hk => hk.2) (.bool ((rd_T76 l0_0 x24_1).f2))) (fun _ hk => hk.1.2)))⟩; have n3_ : Aside0 (w107.heap[gb399]? = some (.cells #[.slice (some ad409) l0_0.length c0_0] 36 (0, 0))) := ⟨(by rw [hw]; exact (by exact br_ NB399_412.out (br_ NB399_412.out (br_ NB399_412.out (BK399.out)))))⟩; have n4_ : Aside0 (w107.heap[gb400]? = some (.cells #[.slice none 0 0] 30 (0, 0))) := ⟨(by rw [hw]; exact (by exact br_ NB400_412.out (br_ NB400_412.out (br_ NB400_412.out (BK400.out)))))⟩; have n5_ : Aside0 (w107.heap[gb408]? = some (.cells #[u409000] 30 (0, 0))) := ⟨(by rw [hw]; exact (by exact br_ NB408_412.out (br_ NB408_412.out (br_ NB408_412.out (BK408.out)))))⟩; have n6_ : Aside0 (w107.heap[gb410]? = some (.cells #[.int .i64 ((rd_T76 l0_0 x24_1).f0), .int .i64 ((rd_T76 l0_0 x24_1).f1), .bool ((rd_T76 l0_0 x24_1).f2)] 76 (0, 0))) := ⟨(by rw [hw]; exact (by exact br_ NB410_412.out (br_ NB410_412.out (br_ NB410_412.out (BK410.out)))))⟩; have n7_ : Aside0 (w107.heap[gb412]? = some (.cells #[.string (⟨#[]⟩ : ByteArray), .int .i64 (-1), .bool ((rd_T76 l0_0 x24_1).f2)] 60 (0, 0))) := ⟨(by rw [hw]; exact (by refine bP_ (cs := #[.string (⟨#[]⟩ : ByteArray), .int .i64 (-1), .bool false]) ?_ 2 _ rfl; refine bP_ (cs := #[.string (⟨#[]⟩ : ByteArray), .int .i64 0, .bool false]) ?_ 1 _ rfl; refine bP_ (cs := #[.string (⟨#[]⟩ : ByteArray), .int .i64 0, .bool false]) ?_ 0 _ rfl; exact BK412.out))⟩; have n8_ : Aside0 (Below w.heap.size w w107) := ⟨(by rw [hw]; exact (by repeat with_reducible first | exact HB.out | apply bA_ | apply bN_ | apply bD_ | refine bS_ ?_ (Aside0.out ‹_›)))⟩; clear hw; clear HO_3; clear HO_6; clear HO_409000; clear BK399; clear BK400; clear BK408; clear BK410; clear BK412; clear HB; have HO_3 := n0_; have HO_6 := n1_; have HO_409000 := n2_; have BK399 := n3_; have BK400 := n4_; have BK408 := n5_; have BK410 := n6_; have BK412 := n7_; have HB := n8_; clear n0_ n1_ n2_ n3_ n4_ n5_ n6_ n7_ n8_; have hnb108 := NB408_400.out; have hnc108 := NB400_408.out; have hcz109_0 := c0_ BK408; have hfz109_0 := bF_ BK408.out 0; obtain ⟨Ao110, co110, eo110⟩ := kS_ HO_409000.out; subst eo110; have p89 : 0 ≤ (x24_1 : Int) := of_decide_eq_true ‹_›; have q89 : (x24_1 : Int) < ((x6_1.length : Int) : Int) := of_decide_eq_true ‹_›; obtain ⟨go89, co89, eo89, gb89, gl89, cl89, HG89⟩ := Kd.R_form HO_6.out (by omega); (cases eo89); have GB89 := aM_ gb89; have GG89 := aM_ HG89; clear gb89 gl89 HG89; obtain ⟨hx89_0, hf89_0⟩ := kC_ 0 HO_6.out (x24_1 : Int) p89 q89; replace p89 := eq_true p89; replace q89 := eq_true q89; obtain ⟨hy111_, hz111_⟩ := kC_ 0 HO_6.out (x24_1 : Int) (of_decide_eq_true ‹_›) (of_decide_eq_true ‹_›); have HP111 := Kd.R_putg HO_6.out (x24_1 : Int) (x409000_1.length : Int)) | ((with_reducible refine gate_store (t := 3) (p := 71) rfl ?_); refine store_event (t := 3) (p := 71) (v := ?vo_w112) (w1 := (w107.setCell ⟨go89, (x24_1 : Int).toNat, none⟩ (.int .i64 (x409000_1.length : Int)))) ?hg ?ho ?hn ?hr ?_; (case ho => rfl); (case hg => rfl); (case hn => rfl); (case hr => (go_simp; done)); intro w112 hw; have hg : w107.grownBy w112 (some go89) := (by rw [hw]; exact HP111.2); have hp_ : Kd.R (Kd.int .i64) 3 w112 w.heap.size (fun _ => True) (.slice (some ⟨go89, 0, none⟩) x6_1.length co89) y422 := (by rw [hw, Ny422.out]; exact HP111.1); clear HP111; replace HO_3 := aM_ (Kd.R_over' (v := (.slice (some ⟨go89, 0, none⟩) x6_1.length co89)) HO_3.out (Kd.R_typed HO_6.out) (by decide) hg); replace HO_409000 := aM_ (Kd.R_over' (v := (.slice (some ⟨go89, 0, none⟩) x6_1.length co89)) HO_409000.out (Kd.R_typed HO_6.out) (by decide) hg); replace BK399 := aM_ (blk_grown (g := gb399) (o := .cells #[.slice (some ad409) l0_0.length c0_0] 36 (0, 0)) BK399.out hg (k6_ HO_6.out BK399.out (by decide))); replace BK400 := aM_ (blk_grown (g := gb400) (o := .cells #[.slice none 0 0] 30 (0, 0)) BK400.out hg (k6_ HO_6.out BK400.out (by decide))); replace BK408 := aM_ (blk_grown (g := gb408) (o := .cells #[.slice Ao110 x409000_1.length co110] 30 (0, 0)) BK408.out hg (k6_ HO_6.out BK408.out (by decide))); replace BK410 := aM_ (blk_grown (g := gb410) (o := .cells #[.int .i64 ((rd_T76 l0_0 x24_1).f0), .int .i64 ((rd_T76 l0_0 x24_1).f1), .bool ((rd_T76 l0_0 x24_1).f2)] 76 (0, 0)) BK410.out hg (k6_ HO_6.out BK410.out (by decide))); replace BK412 := aM_ (blk_grown (g := gb412) (o := .cells #[.string (⟨#[]⟩ : ByteArray), .int .i64 (-1), .bool ((rd_T76 l0_0 x24_1).f2)] 60 (0, 0)) BK412.out hg (k6_ HO_6.out BK412.out (by decide))); replace HO_6 := aM_ (hp_); replace HB := aM_ ((by rw [hw]; exact bS_ (HB.out) GB89.out : Below w.heap.size w w112)); clear hg hw hp_; have hcz113_0 := c0_ BK408; have hfz113_0 := bF_ BK408.out 0; have hcz114_0 := c0_ BK412; have hcz114_1 := c1_ BK412; have hcz114_2 := c2_ BK412; have hfz114_0 := bF_ BK412.out 0; have hfz114_1 := bF_ BK412.out 1; have hfz114_2 := bF_ BK412.out 2) | ((with_reducible refine gate_builtin (b := .append) (xs := #[.tmp 73, .tmp 75]) rfl ?_); at_builtin; refine Kd.R_append k60 (w0 := w) w.heap.size rfl (.tmp 73) (.tmp 75) 28 60 (.agg #[(.string ⟨#[]⟩), (.int .i64 0), (.bool false)]) 32 rfl Tryz.underlying28 info60 rfl (by decide) (by omega) (.slice Ao110 x409000_1.length co110) x409000_1 (⟨(⟨#[]⟩ : ByteArray), (-1), (rd_T76 l0_0 x24_1).f2⟩ : S60) [.string (⟨#[]⟩ : ByteArray), .int .i64 (-1), .bool ((rd_T76 l0_0 x24_1).f2)] (fun k_ => k_ ≠ gb412) (fun _ => False) rfl rfl ?aP (fun _ hk => hk.elim) ?aF ?aO ?aB ?aS ?aL ?_; (case aP => exact k60_mkM _ _ _ (⟨(⟨#[]⟩ : ByteArray), (-1), (rd_T76 l0_0 x24_1).f2⟩ : S60)); (case aB => exact HB.out); (case aF => exact (fun k_ hk => Kd.freshB (g := gb412) (o := .cells #[.string (⟨#[]⟩ : ByteArray), .int .i64 (-1), .bool ((rd_T76 l0_0 x24_1).f2)] 60 (0, 0)) BK412.out k_ hk)); (case aO => exact HO_409000.out); (case aS => exact (bZ_ HB.out)); (case aL => have := LMc90.out; omega); intro v424 w115 ho hb hg hat; rw [← Ny423.out] at ho; have n0_ := aM_ (Kd.R_over' HO_3.out (Kd.R_typed HO_409000.out) (by decide) hg); have n1_ := aM_ (Kd.R_over' HO_6.out (Kd.R_typed HO_409000.out) (by decide) hg); have n2_ := aM_ (blk_grown (g := gb399) (o := .cells #[.slice (some ad409) l0_0.length c0_0] 36 (0, 0)) BK399.out hg (k6_ HO_409000.out BK399.out (by decide))); have n3_ := aM_ (blk_grown (g := gb400) (o := .cells #[.slice none 0 0] 30 (0, 0)) BK400.out hg (k6_ HO_409000.out BK400.out (by decide))); have n4_ := aM_ (blk_grown (g := gb408) (o := .cells #[.slice Ao110 x409000_1.length co110] 30 (0, 0)) BK408.out hg (k6_ HO_409000.out BK408.out (by decide))); have n5_ := aM_ (blk_grown (g := gb410) (o := .cells #[.int .i64 ((rd_T76 l0_0 x24_1).f0), .int .i64 ((rd_T76 l0_0 x24_1).f1), .bool ((rd_T76 l0_0 x24_1).f2)] 76 (0, 0)) BK410.out hg (k6_ HO_409000.out BK410.out (by decide))); have n6_ := aM_ (blk_grown (g := gb412) (o := .cells #[.string (⟨#[]⟩ : ByteArray), .int .i64 (-1), .bool ((rd_T76 l0_0 x24_1).f2)] 60 (0, 0)) BK412.out hg (Kd.R_away HO_409000.out (fun _ hk => hk))); have n7_ := aM_ (hb); have n8_ := aM_ (ho); clear HO_3; clear HO_6; clear BK399; clear BK400; clear BK408; clear BK410; clear BK412; clear HB; clear HO_409000; have HO_3 := n0_; have HO_6 := n1_; have BK399 := n2_; have BK400 := n3_; have BK408 := n4_; have BK410 := n5_; have BK412 := n6_; have HB := n7_; have HO425 := n8_; clear n0_ n1_ n2_ n3_ n4_ n5_ n6_ n7_ n8_; clear ho hb hg hat; obtain ⟨Ao116, co116, eo116⟩ := kS_ HO425.out; subst eo116; have hcz117_0 := c0_ BK408; have hfz117_0 := bF_ BK408.out 0))
    go_roundg k1
    case measure => have := HK1.out; omega
    case rel => exact ⟨(y422), (wrap64 (x24_1 + 1)), (y423), (.slice Ao116 y423.length co116), (by rfl), H', ⟨by have := HK1.out; omega⟩, ⟨by exact kM_ (kG_ (kT_ HO_3.out BK408.out (by decide))) (fun _ hk => trivial)⟩, ⟨by exact kM_ (kG_ (kT_ HO_6.out BK408.out (by decide))) (fun _ hk => trivial)⟩, ⟨by exact kM_ (kG_ (kT_ HO425.out BK408.out (by decide))) (fun _ hk => trivial)⟩, ⟨by exact br_ NB399_408.out (BK399.out)⟩, ⟨by exact br_ NB400_408.out (BK400.out)⟩, ⟨by refine bP_ (cs := #[.slice Ao110 x409000_1.length co110]) ?_ 0 _ rfl; exact BK408.out⟩, ⟨by repeat with_reducible first | exact HB.out | apply bA_ | apply bN_ | apply bD_ | refine bS_ ?_ (Aside0.out ‹_›)⟩⟩
   rw [if_pos c23] at H
   have c23b0 := decide_eq_true c23
   clear c23
   have H' := aM_ H
   clear H
   have p409 : 0 ≤ (x24_1 : Int) := of_decide_eq_true ‹_›
   have q409 : x24_1 < (l0_0.length : Int) := of_decide_eq_true ‹_›
   obtain ⟨ad409, e409, hx409_0, hx409_1, hx409_2⟩ := at_T76 HR0_0.out x24_1 p409 q409
   cases e409
   replace hx409_0 := cb_ HB hx409_0
   replace hx409_1 := cb_ HB hx409_1
   replace hx409_2 := cb_ HB hx409_2
   replace p409 := eq_true p409
   replace q409 := eq_true q409
   go_wp2_with (first | (refine bx_ 8 #[.int .i64 0, .int .i64 0, .bool false] 76 (by with_reducible rfl) rfl (by go_simp; done) ?_; intro gb410 hg w24 hbox hb; replace HO_3 := k9_ HO_3 hb; replace HO_6 := k9_ HO_6 hb; replace HO_409000 := k9_ HO_409000 hb; have BK410 := aM_ (hbox); have GW410 := gw_ hg HB; replace HB := b4_ HB hb; have NB399_410 := nb_ hg BK399; have NB410_399 := ns_ NB399_410; replace BK399 := b5_ BK399 hb; have NB400_410 := nb_ hg BK400; have NB410_400 := ns_ NB400_410; replace BK400 := b5_ BK400 hb; have NB408_410 := nb_ hg BK408; have NB410_408 := ns_ NB408_410; replace BK408 := b5_ BK408 hb; clear hb hbox hg; have hnb25 := NB410_399.out; have hnc25 := NB399_410.out; have hnb26 := NB410_400.out; have hnc26 := NB400_410.out; have hnb27 := NB410_408.out; have hnc27 := NB408_410.out; have hcz28_0 := c0_ BK410; have hcz28_1 := c1_ BK410; have hcz28_2 := c2_ BK410; have hfz28_0 := bF_ BK410.out 0; have hfz28_1 := bF_ BK410.out 1; have hfz28_2 := bF_ BK410.out 2; have hnb29 := NB399_400.out; have hnc29 := NB400_399.out; have hnb30 := NB399_408.out; have hnc30 := NB408_399.out; have hcz31_0 := c0_ BK399; have hfz31_0 := bF_ BK399.out 0) | ((with_reducible refine gC_ (f := 84) rfl ?_); refine goesL_ (some 31) rfl rfl Tryz.func84 (by kernel_rfl) rfl #[.agg #[.slice (some ad409) l0_0.length c0_0], .int .i64 x24_1] rfl (by (try simp only [sD_, sE_, sF_]); rfl) ?_; (with_reducible refine (impl_Trie_stays.calls k1 _ _ l0_0 x24_1 true _ ?side1 HC0_0.out A21.out).mono ?_); (case side1 => exact k4_ HR0_0.out (by repeat with_reducible first | exact HB.out | apply bA_ | apply bN_ | apply bD_ | refine bS_ ?_ (Aside0.out ‹_›))); rintro e w32 ⟨rfl, hb⟩; refine ⟨_, rfl, ?_⟩; replace HO_3 := aM_ (kB_ (by exact (kM_ (kG_ (kG_ (kG_ (kT_ HO_3.out BK410.out (by decide))))) (fun _ h_ => h_.1))) hb); replace HO_6 := aM_ (kB_ (by exact (kM_ (kG_ (kG_ (kG_ (kT_ HO_6.out BK410.out (by decide))))) (fun _ h_ => h_.1))) hb); replace HO_409000 := aM_ (kB_ (by exact (kM_ (kG_ (kG_ (kG_ (kT_ HO_409000.out BK410.out (by decide))))) (fun _ h_ => h_.1))) hb); replace BK399 := aM_ (bB_ (g := gb399) (o := .cells #[.slice (some ad409) l0_0.length c0_0] 36 (0, 0)) (by exact br_ NB399_410.out (br_ NB399_410.out (br_ NB399_410.out (BK399.out)))) hb); replace BK400 := aM_ (bB_ (g := gb400) (o := .cells #[.slice none 0 0] 30 (0, 0)) (by exact br_ NB400_410.out (br_ NB400_410.out (br_ NB400_410.out (BK400.out)))) hb); replace BK408 := aM_ (bB_ (g := gb408) (o := .cells #[u409000] 30 (0, 0)) (by exact br_ NB408_410.out (br_ NB408_410.out (br_ NB408_410.out (BK408.out)))) hb); replace BK410 := aM_ (bB_ (g := gb410) (o := .cells #[.int .i64 ((rd_T76 l0_0 x24_1).f0), .int .i64 ((rd_T76 l0_0 x24_1).f1), .bool ((rd_T76 l0_0 x24_1).f2)] 76 (0, 0)) (by refine bP_ (cs := #[.int .i64 ((rd_T76 l0_0 x24_1).f0), .int .i64 ((rd_T76 l0_0 x24_1).f1), .bool false]) ?_ 2 _ rfl; refine bP_ (cs := #[.int .i64 ((rd_T76 l0_0 x24_1).f0), .int .i64 0, .bool false]) ?_ 1 _ rfl; refine bP_ (cs := #[.int .i64 0, .int .i64 0, .bool false]) ?_ 0 _ rfl; exact BK410.out) hb); replace HB := aM_ (bT_ (by repeat with_reducible first | exact HB.out | apply bA_ | apply bN_ | apply bD_ | refine bS_ ?_ (Aside0.out ‹_›)) hb); (try clear hb); have hcz33_0 := c0_ BK410; have hcz33_1 := c1_ BK410; have hcz33_2 := c2_ BK410; have hfz33_0 := bF_ BK410.out 0; have hfz33_1 := bF_ BK410.out 1; have hfz33_2 := bF_ BK410.out 2) | (refine bx_ 9 #[.string (⟨#[]⟩ : ByteArray), .int .i64 0, .bool false] 60 (by with_reducible rfl) rfl (by go_simp; done) ?_; intro gb412 hg w34 hbox hb; replace HO_3 := k9_ HO_3 hb; replace HO_6 := k9_ HO_6 hb; replace HO_409000 := aM_ (kB_ (Kd.R_elderB HO_409000.out gb412 (Nat.le_of_eq hg.symm)) hb); have BK412 := aM_ (hbox); have GW412 := gw_ hg HB; replace HB := b4_ HB hb; have NB399_412 := nb_ hg BK399; have NB412_399 := ns_ NB399_412; replace BK399 := b5_ BK399 hb; have NB400_412 := nb_ hg BK400; have NB412_400 := ns_ NB400_412; replace BK400 := b5_ BK400 hb; have NB408_412 := nb_ hg BK408; have NB412_408 := ns_ NB408_412; replace BK408 := b5_ BK408 hb; have NB410_412 := nb_ hg BK410; have NB412_410 := ns_ NB410_412; replace BK410 := b5_ BK410 hb; clear hb hbox hg; have hnb35 := NB412_399.out; have hnc35 := NB399_412.out; have hnb36 := NB412_400.out; have hnc36 := NB400_412.out; have hnb37 := NB412_408.out; have hnc37 := NB408_412.out; have hnb38 := NB412_410.out; have hnc38 := NB410_412.out; have hcz39_0 := c0_ BK412; have hcz39_1 := c1_ BK412; have hcz39_2 := c2_ BK412; have hfz39_0 := bF_ BK412.out 0; have hfz39_1 := bF_ BK412.out 1; have hfz39_2 := bF_ BK412.out 2; have hcz40_0 := c0_ BK410; have hcz40_1 := c1_ BK410; have hcz40_2 := c2_ BK410; have hfz40_0 := bF_ BK410.out 0; have hfz40_1 := bF_ BK410.out 1; have hfz40_2 := bF_ BK410.out 2))
   go_loopg [10] k1 (fun kq v10 w' => ∃ (x10_2 : Int), v10 = .int .i64 x10_2 ∧ Aside0 (impl_Trie_press.l1 kq t401 x6_1 x24_1 x10_2 l0_0 (l0_0.length : Int) x24_1 l0_0 x409000_1 (⟨#[]⟩ : ByteArray) (-1) ((rd_T76 l0_0 x24_1).f2) = some r) ∧ Aside0 (kq ≤ k1) ∧ Aside0 (Kd.R Kd.string 9 w' w.heap.size (fun _ => True) v402 t401) ∧ Aside0 (Kd.R (Kd.int .i64) 3 w' w.heap.size (fun _ => True) v406 x6_1) ∧ Aside0 (Kd.R k60 60 w' w.heap.size (fun k_ => k_ ≠ gb412) u409000 x409000_1) ∧ Aside0 (w'.heap[gb399]? = some (.cells #[(.slice (some ad409) l0_0.length c0_0)] 36 (0, 0))) ∧ Aside0 (w'.heap[gb400]? = some (.cells #[(.slice none 0 0)] 30 (0, 0))) ∧ Aside0 (w'.heap[gb408]? = some (.cells #[u409000] 30 (0, 0))) ∧ Aside0 (w'.heap[gb410]? = some (.cells #[.int .i64 ((rd_T76 l0_0 x24_1).f0), .int .i64 ((rd_T76 l0_0 x24_1).f1), .bool ((rd_T76 l0_0 x24_1).f2)] 76 (0, 0))) ∧ Aside0 (w'.heap[gb412]? = some (.cells #[.string (⟨#[]⟩ : ByteArray), .int .i64 (-1), .bool ((rd_T76 l0_0 x24_1).f2)] 60 (0, 0))) ∧ Aside0 (Below w.heap.size w w'))
   case atStart => exact ⟨((rd_T76 l0_0 x24_1).f1), (by rfl), H', ⟨Nat.le_refl _⟩, ⟨by exact kM_ (kG_ (kG_ (kG_ (kT_ HO_3.out BK412.out (by decide))))) (fun _ hk => trivial)⟩, ⟨by exact kM_ (kG_ (kG_ (kG_ (kT_ HO_6.out BK412.out (by decide))))) (fun _ hk => trivial)⟩, ⟨by exact kM_ (kF_ (p := ⟨gb412, 2, none⟩) (kF_ (p := ⟨gb412, 1, none⟩) (kF_ (p := ⟨gb412, 0, none⟩) (kM_ HO_409000.out (fun k_ hk => (⟨hk, hk.2⟩ : _ ∧ k_ ≠ gb412))) (fun _ hk => hk.2) (.string (⟨#[]⟩ : ByteArray))) (fun _ hk => hk.2) (.int .i64 (-1))) (fun _ hk => hk.2) (.bool ((rd_T76 l0_0 x24_1).f2))) (fun _ hk => hk.1.2)⟩, ⟨by exact br_ NB399_412.out (br_ NB399_412.out (br_ NB399_412.out (BK399.out)))⟩, ⟨by exact br_ NB400_412.out (br_ NB400_412.out (br_ NB400_412.out (BK400.out)))⟩, ⟨by exact br_ NB408_412.out (br_ NB408_412.out (br_ NB408_412.out (BK408.out)))⟩, ⟨by exact br_ NB410_412.out (br_ NB410_412.out (br_ NB410_412.out (BK410.out)))⟩, ⟨by refine bP_ (cs := #[.string (⟨#[]⟩ : ByteArray), .int .i64 (-1), .bool false]) ?_ 2 _ rfl; refine bP_ (cs := #[.string (⟨#[]⟩ : ByteArray), .int .i64 0, .bool false]) ?_ 1 _ rfl; refine bP_ (cs := #[.string (⟨#[]⟩ : ByteArray), .int .i64 0, .bool false]) ?_ 0 _ rfl; exact BK412.out⟩, ⟨by repeat with_reducible first | exact HB.out | apply bA_ | apply bN_ | apply bD_ | refine bS_ ?_ (Aside0.out ‹_›)⟩⟩
   case round =>
    clear H'
    try clear p2
    try clear c3b0
    try clear c3b1
    try clear c4b0
    try clear c4b1
    try clear p4
    try clear q4
    try clear hx4
    try clear p6
    try clear c18b0
    try clear c19b0
    try clear c20b0
    try clear c23b0
    try clear p40
    try clear q40
    try clear hx40
    try clear hcz17_0
    try clear hcz28_0
    try clear hcz28_1
    try clear hcz28_2
    try clear hcz31_0
    try clear hcz33_0
    try clear hcz33_1
    try clear hcz33_2
    try clear hcz39_0
    try clear hcz39_1
    try clear hcz39_2
    try clear hcz40_0
    try clear hcz40_1
    try clear hcz40_2
    try clear hcz8_0
    try clear hfz17_0
    try clear hfz28_0
    try clear hfz28_1
    try clear hfz28_2
    try clear hfz31_0
    try clear hfz33_0
    try clear hfz33_1
    try clear hfz33_2
    try clear hfz39_0
    try clear hfz39_1
    try clear hfz39_2
    try clear hfz40_0
    try clear hfz40_1
    try clear hfz40_2
    try clear hfz8_0
    try clear hx409_0
    try clear hx409_1
    try clear hx409_2
    try clear p2
    try clear p409
    try clear q409
    obtain ⟨x10_2, rfl, HA, HK2, HO_3, HO_6, HO_409000, BK399, BK400, BK408, BK410, BK412, HB⟩ := hrel
    cases gk with
    | zero => exact absurd HA.out (by simp [impl_Trie_press.l1])
    | succ k2 =>
     have H := HA.out
     clear HA
     simp only [impl_Trie_press.l1] at H
     replace H := oB_.mp H
     obtain ⟨t413, A410, H⟩ := H
     try dsimp only at H
     have A41 := aM_ A410
     clear A410
     by_cases c42 : t413 = true
     rotate_left
     ·
      replace c42 := Bool.eq_false_iff.mpr c42
      subst c42
      replace H : (if 0 ≤ x10_2 then (if x10_2 < (l0_0.length : Int) then (impl_Trie_press.l1 k2 t401 x6_1 x24_1 ((rd_T76 l0_0 x10_2).f1) l0_0 (l0_0.length : Int) x24_1 l0_0 x409000_1 (⟨#[]⟩ : ByteArray) (-1) ((rd_T76 l0_0 x24_1).f2)) else (none)) else (none)) = some r := by rw [if_neg (show ¬ (false = true) by decide)] at H; exact H
      by_cases c79 : 0 ≤ x10_2
      rotate_left
      ·
       rw [if_neg c79] at H
       exact absurd H (by simp)
      rw [if_pos c79] at H
      have c79b0 := decide_eq_true c79
      clear c79
      by_cases c80 : x10_2 < (l0_0.length : Int)
      rotate_left
      ·
       rw [if_neg c80] at H
       exact absurd H (by simp)
      rw [if_pos c80] at H
      have c80b0 := decide_eq_true c80
      clear c80
      have H' := aM_ H
      clear H
      have hnb81 := NB399_400.out
      have hnc81 := NB400_399.out
      have hnb82 := NB399_408.out
      have hnc82 := NB408_399.out
      have hnb83 := NB399_410.out
      have hnc83 := NB410_399.out
      have hnb84 := NB399_412.out
      have hnc84 := NB412_399.out
      have hcz85_0 := c0_ BK399
      have hfz85_0 := bF_ BK399.out 0
      go_wp2_with (first | ((with_reducible refine gC_ (f := 84) rfl ?_); refine goesL_ (some 42) rfl rfl Tryz.func84 (by kernel_rfl) rfl #[.agg #[.slice (some ad409) l0_0.length c0_0], .int .i64 x10_2] rfl (by (try simp only [sD_, sE_, sF_]); rfl) ?_; (with_reducible refine (impl_Trie_stays.calls k2 _ _ l0_0 x10_2 false _ ?side1 HC0_0.out A41.out).mono ?_); (case side1 => repeat (first | exact (k4_ HR0_0.out HB.out) | with_reducible first | apply Kd.C_alloc | apply Kd.C_drewN | apply Kd.C_drew)); rintro e w86 ⟨rfl, hb⟩; refine ⟨_, rfl, ?_⟩; replace HO_3 := k9_ HO_3 hb; replace HO_6 := k9_ HO_6 hb; replace HO_409000 := k9_ HO_409000 hb; replace BK399 := b5_ BK399 hb; replace BK400 := b5_ BK400 hb; replace BK408 := b5_ BK408 hb; replace BK410 := b5_ BK410 hb; replace BK412 := aM_ (bB_ (g := gb412) (o := .cells #[.string (⟨#[]⟩ : ByteArray), .int .i64 (-1), .bool ((rd_T76 l0_0 x24_1).f2)] 60 (0, 0)) BK412.out hb); replace HB := b4_ HB hb; (try clear hb); have hcz87_0 := c0_ BK399; have hfz87_0 := bF_ BK399.out 0; have p421 : 0 ≤ (x10_2 : Int) := of_decide_eq_true ‹_›; have q421 : x10_2 < (l0_0.length : Int) := of_decide_eq_true ‹_›; obtain ⟨ad421, e421, hx421_0, hx421_1, hx421_2⟩ := at_T76 HR0_0.out x10_2 p421 q421; obtain rfl : ad409 = ad421 := (by injection e421); replace hx421_0 := cb_ HB hx421_0; replace hx421_1 := cb_ HB hx421_1; replace hx421_2 := cb_ HB hx421_2; replace p421 := eq_true p421; replace q421 := eq_true q421))
      go_roundg k2
      case measure => have := HK1.out; have := HK2.out; omega
      case rel => exact ⟨((rd_T76 l0_0 x10_2).f1), (by rfl), H', ⟨by have := HK1.out; have := HK2.out; omega⟩, ⟨HO_3.out⟩, ⟨HO_6.out⟩, ⟨HO_409000.out⟩, ⟨BK399.out⟩, ⟨BK400.out⟩, ⟨BK408.out⟩, ⟨BK410.out⟩, ⟨BK412.out⟩, ⟨HB.out⟩⟩
     subst c42
     rw [if_pos rfl] at H
     by_cases c43 : 0 ≤ x24_1
     rotate_left
     ·
      rw [if_neg c43] at H
      exact absurd H (by simp)
     rw [if_pos c43] at H
     have c43b0 := decide_eq_true c43
     clear c43
     by_cases c44 : x24_1 < (t401.length : Int)
     rotate_left
     ·
      rw [if_neg c44] at H
      exact absurd H (by simp)
     rw [if_pos c44] at H
     have c44b0 := decide_eq_true c44
     clear c44
     by_cases c45 : 0 ≤ x10_2
     rotate_left
     ·
      rw [if_neg c45] at H
      exact absurd H (by simp)
     rw [if_pos c45] at H
     have c45b0 := decide_eq_true c45
     clear c45
     by_cases c46 : x10_2 < (t401.length : Int)
     rotate_left
     ·
      rw [if_neg c46] at H
      exact absurd H (by simp)
     rw [if_pos c46] at H
     have c46b0 := decide_eq_true c46
     clear c46
     by_cases c47 : 0 ≤ ((rdOf eB_ t401 x10_2).size : Int)
     rotate_left
     ·
      rw [if_neg c47] at H
      exact absurd H (by simp)
     rw [if_pos c47] at H
     have c47b0 := eq_true c47
     have c47b1 := decide_eq_true c47
     clear c47
     by_cases c48 : ((rdOf eB_ t401 x10_2).size : Int) ≤ ((rdOf eB_ t401 x24_1).size : Int)
     rotate_left
     ·
      rw [if_neg c48] at H
      exact absurd H (by simp)
     rw [if_pos c48] at H
     have c48b0 := eq_true c48
     have c48b1 := decide_eq_true c48
     clear c48
     by_cases c49 : x10_2 < (x6_1.length : Int)
     rotate_left
     ·
      rw [if_neg c49] at H
      exact absurd H (by simp)
     rw [if_pos c49] at H
     have c49b0 := decide_eq_true c49
     clear c49
     by_cases c50 : x24_1 < (x6_1.length : Int)
     rotate_left
     ·
      rw [if_neg c50] at H
      exact absurd H (by simp)
     rw [if_pos c50] at H
     have c50b0 := decide_eq_true c50
     clear c50
     obtain ⟨y417, hy417⟩ : ∃ y_ : List Int, y_ = (x6_1.set (x24_1 : Int).toNat (x409000_1.length : Int)) := ⟨_, rfl⟩
     replace H : (if x409000_1.length < 4398046511104 then (impl_Trie_press.l0 k2 t401 y417 l0_0 (l0_0.length : Int) (wrap64 (x24_1 + 1)) l0_0 (x409000_1 ++ [(⟨(rdOf eB_ t401 x24_1).extract (((rdOf eB_ t401 x10_2).size : Int) : Int).toNat (rdOf eB_ t401 x24_1).size, rd x6_1 x10_2, ((rd_T76 l0_0 x24_1).f2)⟩ : S60)])) else (none)) = some r := by (try rw [hy417]); first | with_reducible exact H | with_reducible exact (Option.bind_some _ _).symm.trans H | exact H
     have Ny417 := aM_ hy417
     clear hy417
     by_cases c52 : x409000_1.length < 4398046511104
     rotate_left
     ·
      rw [if_neg c52] at H
      exact absurd H (by simp)
     rw [if_pos c52] at H
     have LMc52 := aM_ c52
     clear c52
     obtain ⟨y418, hy418⟩ : ∃ y_ : List (S60), y_ = (x409000_1 ++ [(⟨(rdOf eB_ t401 x24_1).extract (((rdOf eB_ t401 x10_2).size : Int) : Int).toNat (rdOf eB_ t401 x24_1).size, rd x6_1 x10_2, ((rd_T76 l0_0 x24_1).f2)⟩ : S60)]) := ⟨_, rfl⟩
     replace H : (impl_Trie_press.l0 k2 t401 y417 l0_0 (l0_0.length : Int) (wrap64 (x24_1 + 1)) l0_0 y418) = some r := by (try rw [hy418]); first | with_reducible exact H | with_reducible exact (Option.bind_some _ _).symm.trans H | exact H
     have Ny418 := aM_ hy418
     clear hy418
     have H' := aM_ H
     clear H
     have hnb53 := NB399_400.out
     have hnc53 := NB400_399.out
     have hnb54 := NB399_408.out
     have hnc54 := NB408_399.out
     have hnb55 := NB399_410.out
     have hnc55 := NB410_399.out
     have hnb56 := NB399_412.out
     have hnc56 := NB412_399.out
     have hcz57_0 := c0_ BK399
     have hfz57_0 := bF_ BK399.out 0
     try go_wp2_with (first | ((with_reducible refine gC_ (f := 84) rfl ?_); refine goesL_ (some 42) rfl rfl Tryz.func84 (by kernel_rfl) rfl #[.agg #[.slice (some ad409) l0_0.length c0_0], .int .i64 x10_2] rfl (by (try simp only [sD_, sE_, sF_]); rfl) ?_; (with_reducible refine (impl_Trie_stays.calls k2 _ _ l0_0 x10_2 true _ ?side1 HC0_0.out A41.out).mono ?_); (case side1 => repeat (first | exact (k4_ HR0_0.out HB.out) | with_reducible first | apply Kd.C_alloc | apply Kd.C_drewN | apply Kd.C_drew)); rintro e w58 ⟨rfl, hb⟩; refine ⟨_, rfl, ?_⟩; replace HO_3 := k9_ HO_3 hb; replace HO_6 := k9_ HO_6 hb; replace HO_409000 := k9_ HO_409000 hb; replace BK399 := b5_ BK399 hb; replace BK400 := b5_ BK400 hb; replace BK408 := b5_ BK408 hb; replace BK410 := b5_ BK410 hb; replace BK412 := aM_ (bB_ (g := gb412) (o := .cells #[.string (⟨#[]⟩ : ByteArray), .int .i64 (-1), .bool ((rd_T76 l0_0 x24_1).f2)] 60 (0, 0)) BK412.out hb); replace HB := b4_ HB hb; (try clear hb)))
     have n0_ := aM_ (k3_ HO_3.out)
     have n1_ := aM_ (k3_ HO_6.out)
     have n2_ := aM_ (k3_ HO_409000.out)
     have n3_ := aM_ (b1_ BK399.out)
     have n4_ := aM_ (b1_ BK400.out)
     have n5_ := aM_ (b1_ BK408.out)
     have n6_ := aM_ (b1_ BK410.out)
     have n7_ := aM_ (b1_ BK412.out)
     have n8_ := aM_ (bD_ HB.out)
     clear HO_3
     clear HO_6
     clear HO_409000
     clear BK399
     clear BK400
     clear BK408
     clear BK410
     clear BK412
     clear HB
     have HO_3 := n0_
     have HO_6 := n1_
     have HO_409000 := n2_
     have BK399 := n3_
     have BK400 := n4_
     have BK408 := n5_
     have BK410 := n6_
     have BK412 := n7_
     have HB := n8_
     clear n0_ n1_ n2_ n3_ n4_ n5_ n6_ n7_ n8_
     obtain ⟨Ao60, co60, eo60⟩ := kS_ HO_3.out
     (subst eo60)
     have p414 : 0 ≤ (x24_1 : Int) := of_decide_eq_true ‹_›
     have q414 : x24_1 < (t401.length : Int) := of_decide_eq_true ‹_›
     obtain ⟨ad414, e414, hx414_0⟩ := Kd.at_string (kR_ HO_3.out).2.2 x24_1 p414 q414
     cases e414
     replace p414 := eq_true p414
     replace q414 := eq_true q414
     have p415 : 0 ≤ (x10_2 : Int) := of_decide_eq_true ‹_›
     have q415 : x10_2 < (t401.length : Int) := of_decide_eq_true ‹_›
     obtain ⟨ad415, e415, hx415_0⟩ := Kd.at_string (kR_ HO_3.out).2.2 x10_2 p415 q415
     obtain rfl : ad414 = ad415 := (by injection e415)
     replace p415 := eq_true p415
     replace q415 := eq_true q415
     obtain ⟨Ao61, co61, eo61⟩ := kS_ HO_6.out
     (subst eo61)
     have p416 : 0 ≤ (x10_2 : Int) := of_decide_eq_true ‹_›
     have q416 : x10_2 < (x6_1.length : Int) := of_decide_eq_true ‹_›
     obtain ⟨ad416, e416, hx416_0⟩ := Kd.at_int (kR_ HO_6.out).2.2 x10_2 p416 q416
     cases e416
     replace p416 := eq_true p416
     replace q416 := eq_true q416
     refine start_ (n := 18) (S := fun w' => w'.cell? (ad414.add (x24_1).toNat) = some (.string (rdOf eB_ t401 x24_1)) ∧ w'.cell? (ad414.add (x10_2).toNat) = some (.string (rdOf eB_ t401 x10_2)) ∧ w'.cell? (ad416.add (x10_2).toNat) = some (.int .i64 (rd x6_1 x10_2))) (ds := []) #[fy, fy, fy, fy, fy, fy, fy, fy, fy, fy, fy, fy, fy, fy, fy, fy, fy, fy] (by kernel_rfl) rfl rfl ⟨hx414_0, hx415_0, hx416_0⟩ (fun hHeld => ?_); refine with_tabW impl_Trie_press.tab12 impl_Trie_press.bits12 (fun HT_ HW_ => ?_)
     generalize w58.drew = w59 at HO_3 HO_6 HO_409000 BK399 BK400 BK408 BK410 BK412 HB hx414_0 hx415_0 hx416_0 hHeld ⊢
     refine pu_ HT_ 0 50 #[ty, fy, fy, fy, fy, fy, fy, fy, fy, fy, fy, fy, fy, fy, fy, fy, fy, fy] (by kernel_rfl) rfl rfl (fun _ _ _ h => h) (by rfl) (by intro w'; go_simp; with_reducible rfl) (by simp only [Act.put, sA_, sB_, sC_, i6_, i3_]; rfl) ?_
     refine pu_ HT_ 1 51 #[ty, ty, fy, fy, fy, fy, fy, fy, fy, fy, fy, fy, fy, fy, fy, fy, fy, fy] (by kernel_rfl) rfl rfl (fun _ _ _ h => h) (by rfl) (by intro w'; go_simp; with_reducible rfl) (by simp only [Act.put, sA_, sB_, sC_, i6_, i3_]; rfl) ?_
     refine pu_ HT_ 2 52 #[ty, ty, ty, fy, fy, fy, fy, fy, fy, fy, fy, fy, fy, fy, fy, fy, fy, fy] (by kernel_rfl) rfl rfl (fun _ _ _ h => h) (by rfl) (by intro w'; go_simp; with_reducible rfl) (by simp only [Act.put, sA_, sB_, sC_, i6_, i3_]; rfl) ?_
     refine pu_ HT_ 4 54 #[ty, ty, ty, fy, ty, fy, fy, fy, fy, fy, fy, fy, fy, fy, fy, fy, fy, fy] (by kernel_rfl) rfl rfl (fun _ _ _ h => h) (by rfl) (by intro w'; go_simp; with_reducible rfl) (by simp only [Act.put, sA_, sB_, sC_, i6_, i3_]; rfl) ?_
     refine pu_ HT_ 5 55 #[ty, ty, ty, fy, ty, ty, fy, fy, fy, fy, fy, fy, fy, fy, fy, fy, fy, fy] (by kernel_rfl) rfl rfl (fun _ _ _ h => h) (by rfl) (by intro w'; go_simp; with_reducible rfl) (by simp only [Act.put, sA_, sB_, sC_, i6_, i3_]; rfl) ?_
     refine pu_ HT_ 6 56 #[ty, ty, ty, fy, ty, ty, ty, fy, fy, fy, fy, fy, fy, fy, fy, fy, fy, fy] (by kernel_rfl) rfl rfl (fun _ _ _ h => h) (by rfl) (by intro w'; go_simp; with_reducible rfl) (by simp only [Act.put, sA_, sB_, sC_, i6_, i3_]; rfl) ?_
     refine pu_ HT_ 10 60 #[ty, ty, ty, fy, ty, ty, ty, fy, fy, fy, ty, fy, fy, fy, fy, fy, fy, fy] (by kernel_rfl) rfl rfl (fun _ _ _ h => h) (by rfl) (by intro w'; go_simp; with_reducible rfl) (by simp only [Act.put, sA_, sB_, sC_, i6_, i3_]; rfl) ?_
     refine pu_ HT_ 11 61 #[ty, ty, ty, fy, ty, ty, ty, fy, fy, fy, ty, ty, fy, fy, fy, fy, fy, fy] (by kernel_rfl) rfl rfl (fun _ _ _ h => h) (by rfl) (by intro w'; go_simp; with_reducible rfl) (by simp only [Act.put, sA_, sB_, sC_, i6_, i3_]; rfl) ?_
     refine pu_ HT_ 12 62 #[ty, ty, ty, fy, ty, ty, ty, fy, fy, fy, ty, ty, ty, fy, fy, fy, fy, fy] (by kernel_rfl) rfl rfl (fun _ _ _ h => h) (by rfl) (by intro w'; go_simp; with_reducible rfl) (by simp only [Act.put, sA_, sB_, sC_, i6_, i3_]; rfl) ?_
     refine tk_ HT_ HW_ 3 53 #[ty, ty, ty, ty, ty, ty, ty, fy, fy, fy, ty, ty, ty, fy, fy, fy, fy, fy] (by kernel_rfl) rfl rfl (fun _ _ _ h => h) (by rfl) (by rintro w' ⟨s0, s1, s2⟩; go_simp; with_reducible rfl) hHeld (by simp only [Act.put, sA_, sB_, sC_, i6_, i3_]; rfl) ?_
     refine tk_ HT_ HW_ 7 57 #[ty, ty, ty, ty, ty, ty, ty, ty, fy, fy, ty, ty, ty, fy, fy, fy, fy, fy] (by kernel_rfl) rfl rfl (fun _ _ _ h => h) (by rfl) (by rintro w' ⟨s0, s1, s2⟩; go_simp; with_reducible rfl) hHeld (by simp only [Act.put, sA_, sB_, sC_, i6_, i3_]; rfl) ?_
     refine pu_ HT_ 8 58 #[ty, ty, ty, ty, ty, ty, ty, ty, ty, fy, ty, ty, ty, fy, fy, fy, fy, fy] (by kernel_rfl) rfl rfl (fun _ _ _ h => h) (by rfl) (by intro w'; go_simp; with_reducible rfl) (by simp only [Act.put, sA_, sB_, sC_, i6_, i3_]; rfl) ?_
     refine pu_ HT_ 9 59 #[ty, ty, ty, ty, ty, ty, ty, ty, ty, ty, ty, ty, ty, fy, fy, fy, fy, fy] (by kernel_rfl) rfl rfl (fun _ _ _ h => h) (by rfl) (by intro w'; go_simp; with_reducible rfl) (by simp only [Act.put, sA_, sB_, sC_, i6_, i3_]; rfl) ?_
     refine pu_ HT_ 14 64 #[ty, ty, ty, ty, ty, ty, ty, ty, ty, ty, ty, ty, ty, fy, ty, fy, fy, fy] (by kernel_rfl) rfl rfl (fun _ _ _ h => h) (by rfl) (by intro w'; go_simp; with_reducible rfl) (by simp only [Act.put, sA_, sB_, sC_, i6_, i3_]; rfl) ?_
     refine tk_ HT_ HW_ 13 63 #[ty, ty, ty, ty, ty, ty, ty, ty, ty, ty, ty, ty, ty, ty, ty, fy, fy, fy] (by kernel_rfl) rfl rfl (fun _ _ _ h => h) (by rfl) (by rintro w' ⟨s0, s1, s2⟩; go_simp; with_reducible rfl) hHeld (by simp only [Act.put, sA_, sB_, sC_, i6_, i3_]; rfl) ?_
     refine one_ (i := 15) (N := none) #[ty, ty, ty, ty, ty, ty, ty, ty, ty, ty, ty, ty, ty, ty, ty, ty, fy, fy] rfl rfl (one_of HT_.out (by kernel_rfl)) (by decide) (fun K hK => ?_)
     have hs62 : w59.cell? ⟨gb412, 0, none⟩ = some (.string (⟨#[]⟩ : ByteArray)) := (bC_ BK412.out 0).trans rfl
     have hfs62 := bF_ BK412.out 0
     have hns62_0 := NB399_412.out
     have hns62_1 := NB400_412.out
     have hns62_2 := NB408_412.out
     have hns62_3 := NB410_412.out
     have hms62_0 := NB412_399.out
     have hms62_1 := NB412_400.out
     have hms62_2 := NB412_408.out
     have hms62_3 := NB412_410.out
     refine skip_ (w1 := ?_) (by rfl) rfl ?_ ?_
     rotate_left
     ·
      go_simp
      rfl
     refine hK.out _ _ ⟨((cF_ (p := ⟨gb412, _, none⟩) (by (rw [add_block]; exact k7_ (k6_ HO_3.out BK412.out (by decide)))) _).trans (hHeld.1)), ((cF_ (p := ⟨gb412, _, none⟩) (by (rw [add_block]; exact k7_ (k6_ HO_3.out BK412.out (by decide)))) _).trans (hHeld.2.1)), ((cF_ (p := ⟨gb412, _, none⟩) (by (rw [add_block]; exact k7_ (k6_ HO_6.out BK412.out (by decide)))) _).trans (hHeld.2.2))⟩ (fun hHeld => ?_)
     clear hK K
     refine pu_ HT_ 16 65 #[ty, ty, ty, ty, ty, ty, ty, ty, ty, ty, ty, ty, ty, ty, ty, ty, ty, fy] (by kernel_rfl) rfl rfl (fun _ _ _ h => h) (by rfl) (by intro w'; go_simp; with_reducible rfl) (by simp only [Act.put, sA_, sB_, sC_, i6_, i3_]; rfl) ?_
     refine one_ (i := 17) (N := none) #[ty, ty, ty, ty, ty, ty, ty, ty, ty, ty, ty, ty, ty, ty, ty, ty, ty, ty] rfl rfl (one_of HT_.out (by kernel_rfl)) (by decide) (fun K hK => ?_)
     have hs63 : w59.cell? ⟨gb412, 1, none⟩ = some (.int .i64 (-1)) := (bC_ BK412.out 1).trans rfl
     have hfs63 := bF_ BK412.out 1
     have hns63_0 := NB399_412.out
     have hns63_1 := NB400_412.out
     have hns63_2 := NB408_412.out
     have hns63_3 := NB410_412.out
     have hms63_0 := NB412_399.out
     have hms63_1 := NB412_400.out
     have hms63_2 := NB412_408.out
     have hms63_3 := NB412_410.out
     refine skip_ (w1 := ?_) (by rfl) rfl ?_ ?_
     rotate_left
     ·
      go_simp
      rfl
     refine hK.out _ _ ⟨((cF_ (p := ⟨gb412, _, none⟩) (by (rw [add_block]; exact k7_ (k6_ HO_3.out BK412.out (by decide)))) _).trans (hHeld.1)), ((cF_ (p := ⟨gb412, _, none⟩) (by (rw [add_block]; exact k7_ (k6_ HO_3.out BK412.out (by decide)))) _).trans (hHeld.2.1)), ((cF_ (p := ⟨gb412, _, none⟩) (by (rw [add_block]; exact k7_ (k6_ HO_6.out BK412.out (by decide)))) _).trans (hHeld.2.2))⟩ (fun hHeld => ?_)
     clear hK K
     refine done_ (done_of HT_.out (by kernel_rfl)) ?_
     have n0_ : Aside0 (Kd.R Kd.string 9 ((w59.setCell ⟨gb412, 0, none⟩ (.string ((rdOf eB_ t401 x24_1).extract (((rdOf eB_ t401 x10_2).size : Int) : Int).toNat (rdOf eB_ t401 x24_1).size))).setCell ⟨gb412, 1, none⟩ (.int .i64 (rd x6_1 x10_2))) w.heap.size (fun _ => True) (.slice (some ad414) t401.length co60) t401) := ⟨by exact kM_ (kG_ (kG_ (kT_ HO_3.out BK412.out (by decide)))) (fun _ hk => trivial)⟩
     have n1_ : Aside0 (Kd.R (Kd.int .i64) 3 ((w59.setCell ⟨gb412, 0, none⟩ (.string ((rdOf eB_ t401 x24_1).extract (((rdOf eB_ t401 x10_2).size : Int) : Int).toNat (rdOf eB_ t401 x24_1).size))).setCell ⟨gb412, 1, none⟩ (.int .i64 (rd x6_1 x10_2))) w.heap.size (fun _ => True) (.slice (some ad416) x6_1.length co61) x6_1) := ⟨by exact kM_ (kG_ (kG_ (kT_ HO_6.out BK412.out (by decide)))) (fun _ hk => trivial)⟩
     have n2_ : Aside0 (Kd.R k60 60 ((w59.setCell ⟨gb412, 0, none⟩ (.string ((rdOf eB_ t401 x24_1).extract (((rdOf eB_ t401 x10_2).size : Int) : Int).toNat (rdOf eB_ t401 x24_1).size))).setCell ⟨gb412, 1, none⟩ (.int .i64 (rd x6_1 x10_2))) w.heap.size (fun k_ => k_ ≠ gb412) u409000 x409000_1) := ⟨by exact kM_ (kF_ (p := ⟨gb412, 1, none⟩) (kF_ (p := ⟨gb412, 0, none⟩) (kM_ HO_409000.out (fun k_ hk => (⟨hk, hk⟩ : _ ∧ k_ ≠ gb412))) (fun _ hk => hk.2) (.string ((rdOf eB_ t401 x24_1).extract (((rdOf eB_ t401 x10_2).size : Int) : Int).toNat (rdOf eB_ t401 x24_1).size))) (fun _ hk => hk.2) (.int .i64 (rd x6_1 x10_2))) (fun _ hk => hk.1)⟩
     have n3_ : Aside0 (((w59.setCell ⟨gb412, 0, none⟩ (.string ((rdOf eB_ t401 x24_1).extract (((rdOf eB_ t401 x10_2).size : Int) : Int).toNat (rdOf eB_ t401 x24_1).size))).setCell ⟨gb412, 1, none⟩ (.int .i64 (rd x6_1 x10_2))).heap[gb399]? = some (.cells #[.slice (some ad409) l0_0.length c0_0] 36 (0, 0))) := ⟨by exact br_ NB399_412.out (br_ NB399_412.out (BK399.out))⟩
     have n4_ : Aside0 (((w59.setCell ⟨gb412, 0, none⟩ (.string ((rdOf eB_ t401 x24_1).extract (((rdOf eB_ t401 x10_2).size : Int) : Int).toNat (rdOf eB_ t401 x24_1).size))).setCell ⟨gb412, 1, none⟩ (.int .i64 (rd x6_1 x10_2))).heap[gb400]? = some (.cells #[.slice none 0 0] 30 (0, 0))) := ⟨by exact br_ NB400_412.out (br_ NB400_412.out (BK400.out))⟩
     have n5_ : Aside0 (((w59.setCell ⟨gb412, 0, none⟩ (.string ((rdOf eB_ t401 x24_1).extract (((rdOf eB_ t401 x10_2).size : Int) : Int).toNat (rdOf eB_ t401 x24_1).size))).setCell ⟨gb412, 1, none⟩ (.int .i64 (rd x6_1 x10_2))).heap[gb408]? = some (.cells #[u409000] 30 (0, 0))) := ⟨by exact br_ NB408_412.out (br_ NB408_412.out (BK408.out))⟩
     have n6_ : Aside0 (((w59.setCell ⟨gb412, 0, none⟩ (.string ((rdOf eB_ t401 x24_1).extract (((rdOf eB_ t401 x10_2).size : Int) : Int).toNat (rdOf eB_ t401 x24_1).size))).setCell ⟨gb412, 1, none⟩ (.int .i64 (rd x6_1 x10_2))).heap[gb410]? = some (.cells #[.int .i64 ((rd_T76 l0_0 x24_1).f0), .int .i64 ((rd_T76 l0_0 x24_1).f1), .bool ((rd_T76 l0_0 x24_1).f2)] 76 (0, 0))) := ⟨by exact br_ NB410_412.out (br_ NB410_412.out (BK410.out))⟩
     have n7_ : Aside0 (((w59.setCell ⟨gb412, 0, none⟩ (.string ((rdOf eB_ t401 x24_1).extract (((rdOf eB_ t401 x10_2).size : Int) : Int).toNat (rdOf eB_ t401 x24_1).size))).setCell ⟨gb412, 1, none⟩ (.int .i64 (rd x6_1 x10_2))).heap[gb412]? = some (.cells #[.string ((rdOf eB_ t401 x24_1).extract (((rdOf eB_ t401 x10_2).size : Int) : Int).toNat (rdOf eB_ t401 x24_1).size), .int .i64 (rd x6_1 x10_2), .bool ((rd_T76 l0_0 x24_1).f2)] 60 (0, 0))) := ⟨by refine bP_ (cs := #[.string ((rdOf eB_ t401 x24_1).extract (((rdOf eB_ t401 x10_2).size : Int) : Int).toNat (rdOf eB_ t401 x24_1).size), .int .i64 (-1), .bool ((rd_T76 l0_0 x24_1).f2)]) ?_ 1 _ rfl; refine bP_ (cs := #[.string (⟨#[]⟩ : ByteArray), .int .i64 (-1), .bool ((rd_T76 l0_0 x24_1).f2)]) ?_ 0 _ rfl; exact BK412.out⟩
     have n8_ : Aside0 (Below w.heap.size w ((w59.setCell ⟨gb412, 0, none⟩ (.string ((rdOf eB_ t401 x24_1).extract (((rdOf eB_ t401 x10_2).size : Int) : Int).toNat (rdOf eB_ t401 x24_1).size))).setCell ⟨gb412, 1, none⟩ (.int .i64 (rd x6_1 x10_2)))) := ⟨by repeat with_reducible first | exact HB.out | apply bA_ | apply bN_ | apply bD_ | refine bS_ ?_ (Aside0.out ‹_›)⟩
     (try clear HO_3)
     (try clear HO_6)
     (try clear HO_409000)
     (try clear BK399)
     (try clear BK400)
     (try clear BK408)
     (try clear BK410)
     (try clear BK412)
     (try clear HB)
     (try rw [← Int.toNat_natCast (rdOf eB_ t401 x10_2).size])
     generalize ((w59.setCell ⟨gb412, 0, none⟩ (.string ((rdOf eB_ t401 x24_1).extract (((rdOf eB_ t401 x10_2).size : Int) : Int).toNat (rdOf eB_ t401 x24_1).size))).setCell ⟨gb412, 1, none⟩ (.int .i64 (rd x6_1 x10_2))) = w64 at n0_ n1_ n2_ n3_ n4_ n5_ n6_ n7_ n8_ ⊢
     have HO_3 := n0_
     have HO_6 := n1_
     have HO_409000 := n2_
     have BK399 := n3_
     have BK400 := n4_
     have BK408 := n5_
     have BK410 := n6_
     have BK412 := n7_
     have HB := n8_
     clear n0_ n1_ n2_ n3_ n4_ n5_ n6_ n7_ n8_
     have hnb65 := NB408_400.out
     have hnc65 := NB400_408.out
     have hnb66 := NB408_410.out
     have hnc66 := NB410_408.out
     have hnb67 := NB408_412.out
     have hnc67 := NB412_408.out
     have hcz68_0 := c0_ BK408
     have hfz68_0 := bF_ BK408.out 0
     obtain ⟨Ao69, co69, eo69⟩ := kS_ HO_409000.out
     subst eo69
     have p51 : 0 ≤ (x24_1 : Int) := of_decide_eq_true ‹_›
     have q51 : (x24_1 : Int) < ((x6_1.length : Int) : Int) := of_decide_eq_true ‹_›
     obtain ⟨go51, co51, eo51, gb51, gl51, cl51, HG51⟩ := Kd.R_form HO_6.out (by omega)
     (cases eo51)
     have GB51 := aM_ gb51
     have GG51 := aM_ HG51
     clear gb51 gl51 HG51
     (simp only [add_plain] at hx416_0)
     (try simp only [Int.toNat_natCast] at hx416_0)
     obtain ⟨hx51_0, hf51_0⟩ := kC_ 0 HO_6.out (x24_1 : Int) p51 q51
     (try simp only [Int.toNat_natCast] at hx51_0 hf51_0)
     replace p51 := eq_true p51
     replace q51 := eq_true q51
     obtain ⟨hy70_, hz70_⟩ := kC_ 0 HO_6.out (x24_1 : Int) (of_decide_eq_true ‹_›) (of_decide_eq_true ‹_›)
     have HP70 := Kd.R_putg HO_6.out (x24_1 : Int) (x409000_1.length : Int)
     try go_wp2_with (first | ((with_reducible refine gate_store (t := 3) (p := 71) rfl ?_); refine store_event (t := 3) (p := 71) (v := ?vo_w71) (w1 := (w64.setCell ⟨go51, (x24_1 : Int).toNat, none⟩ (.int .i64 (x409000_1.length : Int)))) ?hg ?ho ?hn ?hr ?_; (case ho => rfl); (case hg => rfl); (case hn => rfl); (case hr => (go_simp; done)); intro w71 hw; have hg : w64.grownBy w71 (some go51) := (by rw [hw]; exact HP70.2); have hp_ : Kd.R (Kd.int .i64) 3 w71 w.heap.size (fun _ => True) (.slice (some ⟨go51, 0, none⟩) x6_1.length co61) y417 := (by rw [hw, Ny417.out]; exact HP70.1); clear HP70; replace HO_3 := aM_ (Kd.R_over' (v := (.slice (some ⟨go51, 0, none⟩) x6_1.length co61)) HO_3.out (Kd.R_typed HO_6.out) (by decide) hg); replace HO_409000 := aM_ (Kd.R_over' (v := (.slice (some ⟨go51, 0, none⟩) x6_1.length co61)) HO_409000.out (Kd.R_typed HO_6.out) (by decide) hg); replace BK399 := aM_ (blk_grown (g := gb399) (o := .cells #[.slice (some ad409) l0_0.length c0_0] 36 (0, 0)) BK399.out hg (k6_ HO_6.out BK399.out (by decide))); replace BK400 := aM_ (blk_grown (g := gb400) (o := .cells #[.slice none 0 0] 30 (0, 0)) BK400.out hg (k6_ HO_6.out BK400.out (by decide))); replace BK408 := aM_ (blk_grown (g := gb408) (o := .cells #[.slice Ao69 x409000_1.length co69] 30 (0, 0)) BK408.out hg (k6_ HO_6.out BK408.out (by decide))); replace BK410 := aM_ (blk_grown (g := gb410) (o := .cells #[.int .i64 ((rd_T76 l0_0 x24_1).f0), .int .i64 ((rd_T76 l0_0 x24_1).f1), .bool ((rd_T76 l0_0 x24_1).f2)] 76 (0, 0)) BK410.out hg (k6_ HO_6.out BK410.out (by decide))); replace BK412 := aM_ (blk_grown (g := gb412) (o := .cells #[.string ((rdOf eB_ t401 x24_1).extract (((rdOf eB_ t401 x10_2).size : Int) : Int).toNat (rdOf eB_ t401 x24_1).size), .int .i64 (rd x6_1 x10_2), .bool ((rd_T76 l0_0 x24_1).f2)] 60 (0, 0)) BK412.out hg (k6_ HO_6.out BK412.out (by decide))); replace HO_6 := aM_ (hp_); replace HB := aM_ ((by rw [hw]; exact bS_ (HB.out) GB51.out : Below w.heap.size w w71)); clear hg hw hp_; have hcz72_0 := c0_ BK408; have hfz72_0 := bF_ BK408.out 0; have hnb73 := NB412_400.out; have hnc73 := NB400_412.out; have hnb74 := NB412_410.out; have hnc74 := NB410_412.out; have hcz75_0 := c0_ BK412; have hcz75_1 := c1_ BK412; have hcz75_2 := c2_ BK412; have hfz75_0 := bF_ BK412.out 0; have hfz75_1 := bF_ BK412.out 1; have hfz75_2 := bF_ BK412.out 2) | ((with_reducible refine gate_builtin (b := .append) (xs := #[.tmp 73, .tmp 75]) rfl ?_); at_builtin; refine Kd.R_append k60 (w0 := w) w.heap.size rfl (.tmp 73) (.tmp 75) 28 60 (.agg #[(.string ⟨#[]⟩), (.int .i64 0), (.bool false)]) 32 rfl Tryz.underlying28 info60 rfl (by decide) (by omega) (.slice Ao69 x409000_1.length co69) x409000_1 (⟨(rdOf eB_ t401 x24_1).extract (((rdOf eB_ t401 x10_2).size : Int) : Int).toNat (rdOf eB_ t401 x24_1).size, rd x6_1 x10_2, ((rd_T76 l0_0 x24_1).f2)⟩ : S60) [.string ((rdOf eB_ t401 x24_1).extract (((rdOf eB_ t401 x10_2).size : Int) : Int).toNat (rdOf eB_ t401 x24_1).size), .int .i64 (rd x6_1 x10_2), .bool ((rd_T76 l0_0 x24_1).f2)] (fun k_ => k_ ≠ gb412) (fun _ => False) rfl rfl ?aP (fun _ hk => hk.elim) ?aF ?aO ?aB ?aS ?aL ?_; (case aP => exact k60_mkM _ _ _ (⟨(rdOf eB_ t401 x24_1).extract (((rdOf eB_ t401 x10_2).size : Int) : Int).toNat (rdOf eB_ t401 x24_1).size, rd x6_1 x10_2, ((rd_T76 l0_0 x24_1).f2)⟩ : S60)); (case aB => exact HB.out); (case aF => exact (fun k_ hk => Kd.freshB (g := gb412) (o := .cells #[.string ((rdOf eB_ t401 x24_1).extract (((rdOf eB_ t401 x10_2).size : Int) : Int).toNat (rdOf eB_ t401 x24_1).size), .int .i64 (rd x6_1 x10_2), .bool ((rd_T76 l0_0 x24_1).f2)] 60 (0, 0)) BK412.out k_ hk)); (case aO => exact HO_409000.out); (case aS => exact (bZ_ HB.out)); (case aL => have := LMc52.out; omega); intro v419 w76 ho hb hg hat; rw [← Ny418.out] at ho; have n0_ := aM_ (Kd.R_over' HO_3.out (Kd.R_typed HO_409000.out) (by decide) hg); have n1_ := aM_ (Kd.R_over' HO_6.out (Kd.R_typed HO_409000.out) (by decide) hg); have n2_ := aM_ (blk_grown (g := gb399) (o := .cells #[.slice (some ad409) l0_0.length c0_0] 36 (0, 0)) BK399.out hg (k6_ HO_409000.out BK399.out (by decide))); have n3_ := aM_ (blk_grown (g := gb400) (o := .cells #[.slice none 0 0] 30 (0, 0)) BK400.out hg (k6_ HO_409000.out BK400.out (by decide))); have n4_ := aM_ (blk_grown (g := gb408) (o := .cells #[.slice Ao69 x409000_1.length co69] 30 (0, 0)) BK408.out hg (k6_ HO_409000.out BK408.out (by decide))); have n5_ := aM_ (blk_grown (g := gb410) (o := .cells #[.int .i64 ((rd_T76 l0_0 x24_1).f0), .int .i64 ((rd_T76 l0_0 x24_1).f1), .bool ((rd_T76 l0_0 x24_1).f2)] 76 (0, 0)) BK410.out hg (k6_ HO_409000.out BK410.out (by decide))); have n6_ := aM_ (blk_grown (g := gb412) (o := .cells #[.string ((rdOf eB_ t401 x24_1).extract (((rdOf eB_ t401 x10_2).size : Int) : Int).toNat (rdOf eB_ t401 x24_1).size), .int .i64 (rd x6_1 x10_2), .bool ((rd_T76 l0_0 x24_1).f2)] 60 (0, 0)) BK412.out hg (Kd.R_away HO_409000.out (fun _ hk => hk))); have n7_ := aM_ (hb); have n8_ := aM_ (ho); clear HO_3; clear HO_6; clear BK399; clear BK400; clear BK408; clear BK410; clear BK412; clear HB; clear HO_409000; have HO_3 := n0_; have HO_6 := n1_; have BK399 := n2_; have BK400 := n3_; have BK408 := n4_; have BK410 := n5_; have BK412 := n6_; have HB := n7_; have HO420 := n8_; clear n0_ n1_ n2_ n3_ n4_ n5_ n6_ n7_ n8_; clear ho hb hg hat; obtain ⟨Ao77, co77, eo77⟩ := kS_ HO420.out; subst eo77; have hcz78_0 := c0_ BK408; have hfz78_0 := bF_ BK408.out 0))
     go_roundg k2
     case measure => have := HK1.out; have := HK2.out; omega
     case rel => exact ⟨(y417), (wrap64 (x24_1 + 1)), (y418), (.slice Ao77 y418.length co77), (by rfl), H', ⟨by have := HK1.out; have := HK2.out; omega⟩, ⟨by exact kM_ (kG_ (kT_ HO_3.out BK408.out (by decide))) (fun _ hk => trivial)⟩, ⟨by exact kM_ (kG_ (kT_ HO_6.out BK408.out (by decide))) (fun _ hk => trivial)⟩, ⟨by exact kM_ (kG_ (kT_ HO420.out BK408.out (by decide))) (fun _ hk => trivial)⟩, ⟨by exact br_ NB399_408.out (BK399.out)⟩, ⟨by exact br_ NB400_408.out (BK400.out)⟩, ⟨by refine bP_ (cs := #[.slice Ao69 x409000_1.length co69]) ?_ 0 _ rfl; exact BK408.out⟩, ⟨by repeat with_reducible first | exact HB.out | apply bA_ | apply bN_ | apply bD_ | refine bS_ ?_ (Aside0.out ‹_›)⟩⟩
def impl_Pressed_open.l0 : Nat → List ByteArray → List ByteArray → List (S60) → Int → Int → List (S60) → Option ((List (S76)) × Bool)
 | 0, _, _, _, _, _, _ => none
 | k + 1, x4, x6, x20, x21, x22, x427000 => if x22 < x21 then (if 0 ≤ x22 then (if x22 < (x20.length : Int) then (if (rd_T60 x20 x22).f2 = true then (if x22 < (x4.length : Int) then (if x6.length < 8796093022208 then (impl_Pressed_open.l0 k x4 (x6 ++ [rdOf eB_ x4 x22]) x20 x21 (wrap64 (x22 + 1)) x427000) else (none)) else (none)) else (impl_Pressed_open.l0 k x4 x6 x20 x21 (wrap64 (x22 + 1)) x427000)) else (none)) else (none)) else ((impl_ofWords.f k x6).bind fun bt441 => (if bt441.2 = true then ((impl_Trie_press.f k bt441.1).bind fun t446 => ((impl_Branch.f k t446 x427000).bind fun t449 => (if t449 = true then (some (bt441.1, true)) else (some (([] : List (S76)), false))))) else (some (([] : List (S76)), false))))
def impl_Pressed_open.f (k : Nat) (l0_0 : List (S60)) : Option ((List (S76)) × Bool) := (impl_Pressed_prefixes.f k l0_0).bind fun bt428 => (if bt428.2 = true then (impl_Pressed_open.l0 k bt428.1 (([] : List ByteArray)) l0_0 (l0_0.length : Int) 0 l0_0) else (some (([] : List (S76)), false)))
theorem impl_Pressed_open.mono_l : ∀ k, (∀ y0 y1 y2 y3 y4 y5, LeO (impl_Pressed_open.l0 k y0 y1 y2 y3 y4 y5) (impl_Pressed_open.l0 (k + 1) y0 y1 y2 y3 y4 y5))
 | 0 => fun _ _ _ _ _ _ r h => by simp [impl_Pressed_open.l0] at h
 | k + 1 => by
  have ih0 := impl_Pressed_open.mono_l k
  intro y0 y1 y2 y3 y4 y5
  unfold impl_Pressed_open.l0
  repeat' with_reducible first | exact ih0 _ _ _ _ _ _ | exact impl_Branch.mono _ _ _ | exact impl_Pressed_prefixes.mono _ _ | exact impl_Trie_press.mono _ _ | exact impl_ofWords.mono _ _ | exact l3_ _ | exact l0_ _ | refine l2_ ?_ ?_ | refine l1_ ?_ (fun _ => ?_)
theorem impl_Pressed_open.mono : ∀ a0 k, LeO (impl_Pressed_open.f k a0) (impl_Pressed_open.f (k + 1) a0) := by
 intro a0 k
 have ih0 := impl_Pressed_open.mono_l k
 unfold impl_Pressed_open.f
 repeat' with_reducible first | exact ih0 _ _ _ _ _ _ | exact impl_Branch.mono _ _ _ | exact impl_Pressed_prefixes.mono _ _ | exact impl_Trie_press.mono _ _ | exact impl_ofWords.mono _ _ | exact l3_ _ | exact l0_ _ | refine l2_ ?_ ?_ | refine l1_ ?_ (fun _ => ?_)
def impl_Pressed_open.T12 : Bool × List (List Nat × List Nat) := (true, [([], []), ([0], [0]), ([1], [1]), ([2], [2]), ([3, 2, 2], [2, 3]), ([4, 2], [2, 4]), ([2], [2]), ([6, 2], [2, 6]), ([5, 7, 4, 2], [2, 5, 7]), ([8, 2], [2, 8]), ([2, 9], [2, 9])])
def impl_Pressed_open.B12 : List Nat := [0, 1, 3, 7, 15, 31, 7, 71, 255, 511, 1023]
theorem impl_Pressed_open.tab12 : rtab .any (opsOf Tryz.f33 12) = impl_Pressed_open.T12 := by kernel_rfl
theorem impl_Pressed_open.bits12 : waitsOk impl_Pressed_open.T12.2 impl_Pressed_open.B12 = true := by kernel_rfl
theorem impl_Pressed_open.calls (k : Nat) (A0_0 : Option Addr) (c0_0 : Nat) (l0_0 : List (S60)) (r1 : List (S76)) (r2 : Bool) (w : World) (hr0_0 : Kd.C k60 w A0_0 l0_0.length l0_0) (hc0_0 : l0_0.length ≤ c0_0) (h : impl_Pressed_open.f k l0_0 = some (r1, r2)) :
  Calls Tryz.prog 33 #[.agg #[.slice A0_0 l0_0.length c0_0]] w fun e w' => ∃ v0_ : Value, e = .returned (.tuple #[.agg #[v0_], .bool r2]) ∧ Kd.R k76 76 w' w.heap.size (fun _ => True) v0_ r1 ∧ Below w.heap.size w w' := by
 have hu30 := Tryz.underlying30
 have hfd : ∀ (a_ : Option Addr) (n_ c_ : Nat) (W_ : World), (Instr.field 30 (.agg #[.slice a_ n_ c_]) 0).run Tryz.prog W_ = .ok (.slice a_ n_ c_) W_ := fun a_ n_ c_ W_ => by first | rfl | kernel_rfl
 have hu36 := Tryz.underlying36
 have hu60 := Tryz.underlying60
 have HR0_0 := aM_ hr0_0
 have HC0_0 := aM_ hc0_0
 clear hr0_0 hc0_0
 have HB := aM_ (Below.refl w.heap.size w)
 have H : ((impl_Pressed_prefixes.f k l0_0).bind fun bt428 => (if bt428.2 = true then (impl_Pressed_open.l0 k bt428.1 (([] : List ByteArray)) l0_0 (l0_0.length : Int) 0 l0_0) else (some (([] : List (S76)), false)))) = some (r1, r2) := h
 clear h
 replace H := oB_.mp H
 obtain ⟨⟨t428, t431⟩, A20, H⟩ := H
 try dsimp only at H
 have A2 := aM_ A20
 clear A20
 by_cases c3 : t431 = true
 rotate_left
 ·
  replace c3 := Bool.eq_false_iff.mpr c3
  subst c3
  replace H : (some (([] : List (S76)), false)) = some (r1, r2) := by rw [if_neg (show ¬ (false = true) by decide)] at H; exact H
  simp only [Option.some.injEq, Prod.mk.injEq] at H
  obtain ⟨rfl, rfl⟩ := H
  go_enter Tryz.func33, Tryz.ntmps33
  go_wp2_with (first | (refine bx_ 1 #[.slice A0_0 l0_0.length c0_0] 30 (by with_reducible rfl) rfl (by go_simp; done) ?_; intro gb426 hg w72 hbox hb; have BK426 := aM_ (hbox); have GW426 := gw_ hg HB; replace HB := b4_ HB hb; clear hb hbox hg) | (refine bx_ 2 #[.slice none 0 0] 36 (by with_reducible rfl) rfl (by go_simp; done) ?_; intro gb427 hg w73 hbox hb; have BK427 := aM_ (hbox); have GW427 := gw_ hg HB; replace HB := b4_ HB hb; have NB426_427 := nb_ hg BK426; have NB427_426 := ns_ NB426_427; replace BK426 := b5_ BK426 hb; clear hb hbox hg; have hnb74 := NB426_427.out; have hnc74 := NB427_426.out; have hcz75_0 := c0_ BK426; have hfz75_0 := bF_ BK426.out 0) | ((with_reducible refine gC_ (f := 36) rfl ?_); refine goesL_ (some 12) rfl rfl Tryz.func36 (by kernel_rfl) rfl #[.agg #[.slice A0_0 l0_0.length c0_0]] rfl (by (try simp only [sD_, sE_, sF_]); rfl) ?_; (with_reducible refine (impl_Pressed_prefixes.calls k _ _ l0_0 t428 false _ ?side1 HC0_0.out A2.out).mono ?_); (case side1 => repeat (first | exact (k4_ HR0_0.out HB.out) | with_reducible first | apply Kd.C_alloc | apply Kd.C_drewN | apply Kd.C_drew)); rintro e w76 ⟨v429, rfl, ho0, hb⟩; refine ⟨_, rfl, ?_⟩; have HO430 := aM_ (k5_ ho0 (bZ_ HB.out)); replace BK426 := b5_ BK426 hb; replace BK427 := b5_ BK427 hb; replace HB := b4_ HB hb; (try clear hb); (try clear ho0); have hcz77_0 := c0_ BK427; have hfz77_0 := bF_ BK427.out 0))
  refine bodyPost_ret (results_ct rfl _ _ gb427 36 #[.slice none 0 0] (0, 0) _ rfl (by refine bP_ (cs := #[.slice none 0 0]) ?_ 0 _ rfl; exact BK427.out) Tryz.underlying36 rfl (by kernel_rfl)) rfl ?_
  exact ⟨_, by rfl, by exact Kd.R_nil _ _ _ _ _, by repeat with_reducible first | exact HB.out | apply bA_ | apply bN_ | apply bD_ | refine bS_ ?_ (Aside0.out ‹_›)⟩
 subst c3
 rw [if_pos rfl] at H
 obtain ⟨y432, hy432⟩ : ∃ y_ : List ByteArray, y_ = (([] : List ByteArray)) := ⟨_, rfl⟩
 replace H : (impl_Pressed_open.l0 k t428 y432 l0_0 (l0_0.length : Int) 0 l0_0) = some (r1, r2) := by (try rw [hy432]); first | with_reducible exact H | with_reducible exact (Option.bind_some _ _).symm.trans H | exact H
 have Ny432 := aM_ hy432
 clear hy432
 have H' := aM_ H
 clear H
 go_enter Tryz.func33, Tryz.ntmps33
 go_wp2_with (first | (refine bx_ 1 #[.slice A0_0 l0_0.length c0_0] 30 (by with_reducible rfl) rfl (by go_simp; done) ?_; intro gb426 hg w4 hbox hb; have BK426 := aM_ (hbox); have GW426 := gw_ hg HB; replace HB := b4_ HB hb; clear hb hbox hg) | (refine bx_ 2 #[.slice none 0 0] 36 (by with_reducible rfl) rfl (by go_simp; done) ?_; intro gb427 hg w5 hbox hb; have BK427 := aM_ (hbox); have GW427 := gw_ hg HB; replace HB := b4_ HB hb; have NB426_427 := nb_ hg BK426; have NB427_426 := ns_ NB426_427; replace BK426 := b5_ BK426 hb; clear hb hbox hg; have hnb6 := NB426_427.out; have hnc6 := NB427_426.out; have hcz7_0 := c0_ BK426; have hfz7_0 := bF_ BK426.out 0) | ((with_reducible refine gC_ (f := 36) rfl ?_); refine goesL_ (some 12) rfl rfl Tryz.func36 (by kernel_rfl) rfl #[.agg #[.slice A0_0 l0_0.length c0_0]] rfl (by (try simp only [sD_, sE_, sF_]); rfl) ?_; (with_reducible refine (impl_Pressed_prefixes.calls k _ _ l0_0 t428 true _ ?side1 HC0_0.out A2.out).mono ?_); (case side1 => repeat (first | exact (k4_ HR0_0.out HB.out) | with_reducible first | apply Kd.C_alloc | apply Kd.C_drewN | apply Kd.C_drew)); rintro e w8 ⟨v429, rfl, ho0, hb⟩; refine ⟨_, rfl, ?_⟩; have HO430 := aM_ (k5_ ho0 (bZ_ HB.out)); replace BK426 := b5_ BK426 hb; replace BK427 := b5_ BK427 hb; replace HB := b4_ HB hb; (try clear hb); (try clear ho0)) | ((with_reducible refine gD_ (N := 18) rfl ?_); refine Kd.R_lit Kd.string _ 9 ?hg (N := 18) ?hd (xs := ([] : List ByteArray)) (inner := []) (ok := fun _ => True) (okp := fun _ => True) ?hr ?hp (fun _ hk => hk) trivial (Below.refl _ _) (Nat.le_refl _) (by simp) ?_; (case hd => rfl); (case hg => rfl); (case hr => (go_simp; done)); (case hp => exact (Reps.none _ _)); intro v433 w9 ho10 hb hg_ hnew_; clear hg_ hnew_; (rw [← Ny432.out] at ho10); have HO434 := aM_ (k5_ (Kd.R_new' ho10 (Kd.R_lt HO430.out)) (bZ_ HB.out)); replace HO430 := aM_ (Kd.R_elder' HO430.out (Kd.R_base ho10) hb); replace BK426 := b5_ BK426 hb; replace BK427 := b5_ BK427 hb; replace HB := b4_ HB hb; clear hb ho10; have hcz11_0 := c0_ BK426; have hfz11_0 := bF_ BK426.out 0))
 go_loopg [6, 22] k (fun kq v6 v22 w' => ∃ (x6_1 : List ByteArray) (x22_1 : Int), v22 = .int .i64 x22_1 ∧ Aside0 (impl_Pressed_open.l0 kq t428 x6_1 l0_0 (l0_0.length : Int) x22_1 l0_0 = some (r1, r2)) ∧ Aside0 (kq ≤ k) ∧ Aside0 (Kd.R Kd.string 9 w' w.heap.size (fun k_ => some k_ ≠ (v6 : Value).ownBlock) v429 t428) ∧ Aside0 (Kd.R Kd.string 9 w' w.heap.size (fun k_ => some k_ ≠ (v429 : Value).ownBlock) v6 x6_1) ∧ Aside0 (w'.heap[gb426]? = some (.cells #[(.slice A0_0 l0_0.length c0_0)] 30 (0, 0))) ∧ Aside0 (w'.heap[gb427]? = some (.cells #[(.slice none 0 0)] 36 (0, 0))) ∧ Aside0 (Below w.heap.size w w'))
 case atStart => exact ⟨(y432), (0), (by rfl), H', ⟨Nat.le_refl _⟩, ⟨by exact kM_ HO430.out (fun _ hk => hk.2)⟩, ⟨by exact kM_ HO434.out (fun _ hk => hk.2)⟩, ⟨BK426.out⟩, ⟨BK427.out⟩, ⟨HB.out⟩⟩
 case round =>
  clear H'
  try clear p2
  try clear hcz11_0
  try clear hcz7_0
  try clear hfz11_0
  try clear hfz7_0
  obtain ⟨x6_1, x22_1, rfl, HA, HK1, HO_4, HO_6, BK426, BK427, HB⟩ := hrel
  cases gk with
  | zero => exact absurd HA.out (by simp [impl_Pressed_open.l0])
  | succ k1 =>
   have H := HA.out
   clear HA
   simp only [impl_Pressed_open.l0] at H
   by_cases c12 : x22_1 < (l0_0.length : Int)
   ·
    rw [if_pos c12] at H
    have c12b0 := decide_eq_true c12
    clear c12
    by_cases c13 : 0 ≤ x22_1
    rotate_left
    ·
     rw [if_neg c13] at H
     exact absurd H (by simp)
    rw [if_pos c13] at H
    have c13b0 := decide_eq_true c13
    clear c13
    by_cases c14 : x22_1 < (l0_0.length : Int)
    rotate_left
    ·
     rw [if_neg c14] at H
     exact absurd H (by simp)
    rw [if_pos c14] at H
    have c14b0 := decide_eq_true c14
    clear c14
    obtain ⟨bq15, hbq15⟩ : ∃ b_ : Bool, b_ = ((rd_T60 l0_0 x22_1).f2) := ⟨_, rfl⟩
    replace H : (if bq15 = true then (if x22_1 < (t428.length : Int) then (if x6_1.length < 8796093022208 then (impl_Pressed_open.l0 k1 t428 (x6_1 ++ [rdOf eB_ t428 x22_1]) l0_0 (l0_0.length : Int) (wrap64 (x22_1 + 1)) l0_0) else (none)) else (none)) else (impl_Pressed_open.l0 k1 t428 x6_1 l0_0 (l0_0.length : Int) (wrap64 (x22_1 + 1)) l0_0)) = some (r1, r2) := by rw [← hbq15] at H; exact H
    have Nbq15 := aM_ hbq15
    clear hbq15
    by_cases c16 : bq15 = true
    rotate_left
    ·
     replace c16 := Bool.eq_false_iff.mpr c16
     subst c16
     replace H : (impl_Pressed_open.l0 k1 t428 x6_1 l0_0 (l0_0.length : Int) (wrap64 (x22_1 + 1)) l0_0) = some (r1, r2) := by rw [if_neg (show ¬ (false = true) by decide)] at H; exact H
     have H' := aM_ H
     clear H
     have p435 : 0 ≤ (x22_1 : Int) := of_decide_eq_true ‹_›
     have q435 : x22_1 < (l0_0.length : Int) := of_decide_eq_true ‹_›
     obtain ⟨ad435, e435, hx435_0, hx435_1, hx435_2⟩ := at_T60 HR0_0.out x22_1 p435 q435
     (try rw [← Nbq15.out] at hx435_2)
     cases e435
     replace hx435_0 := cb_ HB hx435_0
     replace hx435_1 := cb_ HB hx435_1
     replace hx435_2 := cb_ HB hx435_2
     replace p435 := eq_true p435
     replace q435 := eq_true q435
     go_wp2_with (first | (refine bx_ 8 #[.string (⟨#[]⟩ : ByteArray), .int .i64 0, .bool false] 60 (by with_reducible rfl) rfl (by go_simp; done) ?_; intro gb436 hg w25 hbox hb; replace HO_4 := k9_ HO_4 hb; replace HO_6 := k9_ HO_6 hb; have BK436 := aM_ (hbox); have GW436 := gw_ hg HB; replace HB := b4_ HB hb; have NB426_436 := nb_ hg BK426; have NB436_426 := ns_ NB426_436; replace BK426 := b5_ BK426 hb; have NB427_436 := nb_ hg BK427; have NB436_427 := ns_ NB427_436; replace BK427 := b5_ BK427 hb; clear hb hbox hg; have hnb26 := NB436_426.out; have hnc26 := NB426_436.out; have hnb27 := NB436_427.out; have hnc27 := NB427_436.out; have hcz28_0 := c0_ BK436; have hcz28_1 := c1_ BK436; have hcz28_2 := c2_ BK436; have hfz28_0 := bF_ BK436.out 0; have hfz28_1 := bF_ BK436.out 1; have hfz28_2 := bF_ BK436.out 2))
     go_roundg k1
     case measure => have := HK1.out; omega
     case rel => exact ⟨(x6_1), (wrap64 (x22_1 + 1)), (by rfl), H', ⟨by have := HK1.out; omega⟩, ⟨by exact kM_ (kG_ (kG_ (kG_ (kT_ HO_4.out BK436.out (by decide))))) (fun _ hk => hk.1)⟩, ⟨by exact kM_ (kG_ (kG_ (kG_ (kT_ HO_6.out BK436.out (by decide))))) (fun _ hk => hk.1)⟩, ⟨by exact br_ NB426_436.out (br_ NB426_436.out (br_ NB426_436.out (BK426.out)))⟩, ⟨by exact br_ NB427_436.out (br_ NB427_436.out (br_ NB427_436.out (BK427.out)))⟩, ⟨by repeat with_reducible first | exact HB.out | apply bA_ | apply bN_ | apply bD_ | refine bS_ ?_ (Aside0.out ‹_›)⟩⟩
    subst c16
    rw [if_pos rfl] at H
    by_cases c17 : x22_1 < (t428.length : Int)
    rotate_left
    ·
     rw [if_neg c17] at H
     exact absurd H (by simp)
    rw [if_pos c17] at H
    have c17b0 := decide_eq_true c17
    clear c17
    by_cases c18 : x6_1.length < 8796093022208
    rotate_left
    ·
     rw [if_neg c18] at H
     exact absurd H (by simp)
    rw [if_pos c18] at H
    have LMc18 := aM_ c18
    clear c18
    obtain ⟨y438, hy438⟩ : ∃ y_ : List ByteArray, y_ = (x6_1 ++ [rdOf eB_ t428 x22_1]) := ⟨_, rfl⟩
    replace H : (impl_Pressed_open.l0 k1 t428 y438 l0_0 (l0_0.length : Int) (wrap64 (x22_1 + 1)) l0_0) = some (r1, r2) := by (try rw [hy438]); first | with_reducible exact H | with_reducible exact (Option.bind_some _ _).symm.trans H | exact H
    have Ny438 := aM_ hy438
    clear hy438
    have H' := aM_ H
    clear H
    have p435 : 0 ≤ (x22_1 : Int) := of_decide_eq_true ‹_›
    have q435 : x22_1 < (l0_0.length : Int) := of_decide_eq_true ‹_›
    obtain ⟨ad435, e435, hx435_0, hx435_1, hx435_2⟩ := at_T60 HR0_0.out x22_1 p435 q435
    (try rw [← Nbq15.out] at hx435_2)
    cases e435
    replace hx435_0 := cb_ HB hx435_0
    replace hx435_1 := cb_ HB hx435_1
    replace hx435_2 := cb_ HB hx435_2
    replace p435 := eq_true p435
    replace q435 := eq_true q435
    go_wp2_with (first | (refine bx_ 8 #[.string (⟨#[]⟩ : ByteArray), .int .i64 0, .bool false] 60 (by with_reducible rfl) rfl (by go_simp; done) ?_; intro gb436 hg w19 hbox hb; replace HO_4 := k9_ HO_4 hb; replace HO_6 := k9_ HO_6 hb; have BK436 := aM_ (hbox); have GW436 := gw_ hg HB; replace HB := b4_ HB hb; have NB426_436 := nb_ hg BK426; have NB436_426 := ns_ NB426_436; replace BK426 := b5_ BK426 hb; have NB427_436 := nb_ hg BK427; have NB436_427 := ns_ NB427_436; replace BK427 := b5_ BK427 hb; clear hb hbox hg; have hnb20 := NB436_426.out; have hnc20 := NB426_436.out; have hnb21 := NB436_427.out; have hnc21 := NB427_436.out; have hcz22_0 := c0_ BK436; have hcz22_1 := c1_ BK436; have hcz22_2 := c2_ BK436; have hfz22_0 := bF_ BK436.out 0; have hfz22_1 := bF_ BK436.out 1; have hfz22_2 := bF_ BK436.out 2; obtain ⟨Ao23, co23, eo23⟩ := kS_ HO_4.out; subst eo23; have p437 : 0 ≤ (x22_1 : Int) := of_decide_eq_true ‹_›; have q437 : x22_1 < (t428.length : Int) := of_decide_eq_true ‹_›; obtain ⟨ad437, e437, hx437_0⟩ := Kd.at_string (kR_ HO_4.out).2.2 x22_1 p437 q437; cases e437; have hn437_0 : ad437.block ≠ gb436 := k7_ (k6_ HO_4.out BK436.out (by decide)); have hn437_1 : ad437.block ≠ gb436 := k7_ (k6_ HO_4.out BK436.out (by decide)); have hn437_2 : ad437.block ≠ gb436 := k7_ (k6_ HO_4.out BK436.out (by decide)); replace hx437_0 := (cF_ (p := ⟨gb436, 0, none⟩) (by (rw [add_block]; exact hn437_0)) (.string ((rd_T60 l0_0 x22_1).f0))).trans hx437_0; replace hx437_0 := (cF_ (p := ⟨gb436, 1, none⟩) (by (rw [add_block]; exact hn437_1)) (.int .i64 ((rd_T60 l0_0 x22_1).f1))).trans hx437_0; replace hx437_0 := (cF_ (p := ⟨gb436, 2, none⟩) (by (rw [add_block]; exact hn437_2)) (.bool true)).trans hx437_0; clear hn437_0; clear hn437_1; clear hn437_2; replace p437 := eq_true p437; replace q437 := eq_true q437) | ((with_reducible refine gate_builtin (b := .append) (xs := #[.tmp 29, .tmp 34]) rfl ?_); at_builtin; refine Kd.R_append Kd.string (w0 := w) w.heap.size rfl (.tmp 29) (.tmp 34) 49 9 (.string ⟨#[]⟩) 16 rfl Tryz.underlying49 info9 rfl (by decide) (by omega) u6 x6_1 (rdOf eB_ t428 x22_1) [.string (rdOf eB_ t428 x22_1)] (fun k_ => some k_ ≠ (.slice (some ad437) t428.length co23 : Value).ownBlock) (fun _ => False) rfl (by (go_simp; done)) ?aP (fun _ hk => hk.elim) ?aF ?aO ?aB ?aS ?aL ?_; (case aP => exact rfl); (case aB => exact (by repeat with_reducible first | exact HB.out | apply bA_ | apply bN_ | apply bD_ | refine bS_ ?_ (Aside0.out ‹_›))); (case aF => exact (fun k_ hk => Kd.fresh' (Kd.R_lt (by exact (kM_ (kG_ (kG_ (kG_ (kT_ HO_4.out BK436.out (by decide))))) (fun _ h_ => h_.1)))) k_ hk)); (case aO => exact (by exact kM_ (kG_ (kG_ (kG_ (kT_ HO_6.out BK436.out (by decide))))) (fun _ hk => hk.1))); (case aS => exact (bZ_ (by repeat with_reducible first | exact HB.out | apply bA_ | apply bN_ | apply bD_ | refine bS_ ?_ (Aside0.out ‹_›)))); (case aL => have := LMc18.out; omega); intro v439 w24 ho hb hg hat; rw [← Ny438.out] at ho; have n0_ := aM_ (Kd.R_after (ok := (fun _ => True)) (by exact kM_ (kG_ (kG_ (kG_ (kT_ HO_4.out BK436.out (by decide))))) (fun _ hk => ⟨trivial, hk.1⟩)) hg hat); have n1_ := aM_ (blk_grown (g := gb426) (o := .cells #[.slice (some ad435) l0_0.length c0_0] 30 (0, 0)) (by exact br_ NB426_436.out (br_ NB426_436.out (br_ NB426_436.out (BK426.out)))) hg (k6_ HO_6.out BK426.out (by decide))); have n2_ := aM_ (blk_grown (g := gb427) (o := .cells #[.slice none 0 0] 36 (0, 0)) (by exact br_ NB427_436.out (br_ NB427_436.out (br_ NB427_436.out (BK427.out)))) hg (k6_ HO_6.out BK427.out (by decide))); have n3_ := aM_ (blk_grown (g := gb436) (o := .cells #[.string ((rd_T60 l0_0 x22_1).f0), .int .i64 ((rd_T60 l0_0 x22_1).f1), .bool true] 60 (0, 0)) (by refine bP_ (cs := #[.string ((rd_T60 l0_0 x22_1).f0), .int .i64 ((rd_T60 l0_0 x22_1).f1), .bool false]) ?_ 2 _ rfl; refine bP_ (cs := #[.string ((rd_T60 l0_0 x22_1).f0), .int .i64 0, .bool false]) ?_ 1 _ rfl; refine bP_ (cs := #[.string (⟨#[]⟩ : ByteArray), .int .i64 0, .bool false]) ?_ 0 _ rfl; exact BK436.out) hg (k6_ HO_6.out BK436.out (by decide))); have n4_ := aM_ (hb); have n5_ := aM_ (ho); clear HO_4; clear BK426; clear BK427; clear BK436; clear HB; clear HO_6; have HO_4 := n0_; have BK426 := n1_; have BK427 := n2_; have BK436 := n3_; have HB := n4_; have HO440 := n5_; clear n0_ n1_ n2_ n3_ n4_ n5_; clear ho hb hg hat))
    go_roundg k1
    case measure => have := HK1.out; omega
    case rel => exact ⟨(y438), (wrap64 (x22_1 + 1)), (by rfl), H', ⟨by have := HK1.out; omega⟩, ⟨by exact kM_ HO_4.out (fun _ hk => hk.2)⟩, ⟨HO440.out⟩, ⟨BK426.out⟩, ⟨BK427.out⟩, ⟨HB.out⟩⟩
   rw [if_neg c12] at H
   have c12b0 := decide_eq_false c12
   clear c12
   replace H := oB_.mp H
   obtain ⟨⟨t441, t444⟩, A290, H⟩ := H
   try dsimp only at H
   have A29 := aM_ A290
   clear A290
   by_cases c30 : t444 = true
   rotate_left
   ·
    replace c30 := Bool.eq_false_iff.mpr c30
    subst c30
    replace H : (some (([] : List (S76)), false)) = some (r1, r2) := by rw [if_neg (show ¬ (false = true) by decide)] at H; exact H
    simp only [Option.some.injEq, Prod.mk.injEq] at H
    obtain ⟨rfl, rfl⟩ := H
    obtain ⟨Ao61, co61, eo61⟩ := kS_ HO_6.out
    subst eo61
    try go_wp2_with (first | ((with_reducible refine gC_ (f := 61) rfl ?_); refine goesL_ (some 39) rfl rfl Tryz.func61 (by kernel_rfl) rfl #[.slice Ao61 x6_1.length co61] rfl (by (try simp only [sD_, sE_, sF_]); rfl) ?_; (with_reducible refine (impl_ofWords.calls k1 _ _ x6_1 t441 false _ ?side1 ?side2 A29.out).mono ?_); (case side1 => repeat (first | exact (kR_ HO_6.out).2.2 | with_reducible first | apply Kd.C_alloc | apply Kd.C_drewN | apply Kd.C_drew)); (case side2 => exact (kR_ HO_6.out).2.1); rintro e w62 ⟨v442, rfl, ho0, hb⟩; refine ⟨_, rfl, ?_⟩; replace HO_4 := k9_ HO_4 hb; replace HO_6 := k9_ HO_6 hb; have HO443 := aM_ (k5_ ho0 (bZ_ HB.out)); replace BK426 := b5_ BK426 hb; replace BK427 := b5_ BK427 hb; replace HB := b4_ HB hb; (try clear hb); (try clear ho0)) | (refine bx_ 9 #[.slice none 0 0] 36 (by with_reducible rfl) rfl (by go_simp; done) ?_; intro gb445 hg w63 hbox hb; replace HO_4 := k9_ HO_4 hb; replace HO_6 := k9_ HO_6 hb; replace HO443 := k9_ HO443 hb; have BK445 := aM_ (hbox); have GW445 := gw_ hg HB; replace HB := b4_ HB hb; have NB426_445 := nb_ hg BK426; have NB445_426 := ns_ NB426_445; replace BK426 := b5_ BK426 hb; have NB427_445 := nb_ hg BK427; have NB445_427 := ns_ NB427_445; replace BK427 := b5_ BK427 hb; clear hb hbox hg; obtain ⟨Ao64, co64, eo64⟩ := kS_ HO443.out; subst eo64; have hnb65 := NB445_426.out; have hnc65 := NB426_445.out; have hnb66 := NB445_427.out; have hnc66 := NB427_445.out; have hcz67_0 := c0_ BK445; have hfz67_0 := bF_ BK445.out 0))
    generalize hW_ : (w63.setCell ⟨gb445, 0, none⟩ (.slice Ao64 t441.length co64)) = w68
    have n0_ : Aside0 (Kd.R Kd.string 9 w68 w.heap.size (fun k_ => some k_ ≠ (.slice Ao61 x6_1.length co61 : Value).ownBlock) v429 t428) := ⟨by subst hW_; exact kM_ (kG_ (kT_ HO_4.out BK445.out (by decide))) (fun _ hk => hk.1)⟩
    have n1_ : Aside0 (Kd.R Kd.string 9 w68 w.heap.size (fun k_ => some k_ ≠ (v429 : Value).ownBlock) (.slice Ao61 x6_1.length co61) x6_1) := ⟨by subst hW_; exact kM_ (kG_ (kT_ HO_6.out BK445.out (by decide))) (fun _ hk => hk.1)⟩
    have n2_ : Aside0 (Kd.R k76 76 w68 w.heap.size (fun _ => True) (.slice Ao64 t441.length co64) t441) := ⟨by subst hW_; exact kM_ (kG_ (kT_ HO443.out BK445.out (by decide))) (fun _ hk => trivial)⟩
    have n3_ : Aside0 (w68.heap[gb426]? = some (.cells #[.slice A0_0 l0_0.length c0_0] 30 (0, 0))) := ⟨by subst hW_; exact br_ NB426_445.out (BK426.out)⟩
    have n4_ : Aside0 (w68.heap[gb427]? = some (.cells #[.slice none 0 0] 36 (0, 0))) := ⟨by subst hW_; exact br_ NB427_445.out (BK427.out)⟩
    have n5_ : Aside0 (w68.heap[gb445]? = some (.cells #[.slice Ao64 t441.length co64] 36 (0, 0))) := ⟨by subst hW_; refine bP_ (cs := #[.slice none 0 0]) ?_ 0 _ rfl; exact BK445.out⟩
    have n6_ : Aside0 (Below w.heap.size w w68) := ⟨by subst hW_; repeat with_reducible first | exact HB.out | apply bA_ | apply bN_ | apply bD_ | refine bS_ ?_ (Aside0.out ‹_›)⟩
    (try clear HO_4)
    (try clear HO_6)
    (try clear HO443)
    (try clear BK426)
    (try clear BK427)
    (try clear BK445)
    (try clear HB)
    clear hW_
    have HO_4 := n0_
    have HO_6 := n1_
    have HO443 := n2_
    have BK426 := n3_
    have BK427 := n4_
    have BK445 := n5_
    have HB := n6_
    clear n0_ n1_ n2_ n3_ n4_ n5_ n6_
    have n0_ := aM_ (k3_ HO_4.out)
    have n1_ := aM_ (k3_ HO_6.out)
    have n2_ := aM_ (k3_ HO443.out)
    have n3_ := aM_ (b1_ BK426.out)
    have n4_ := aM_ (b1_ BK427.out)
    have n5_ := aM_ (b1_ BK445.out)
    have n6_ := aM_ (bD_ HB.out)
    clear HO_4
    clear HO_6
    clear HO443
    clear BK426
    clear BK427
    clear BK445
    clear HB
    have HO_4 := n0_
    have HO_6 := n1_
    have HO443 := n2_
    have BK426 := n3_
    have BK427 := n4_
    have BK445 := n5_
    have HB := n6_
    clear n0_ n1_ n2_ n3_ n4_ n5_ n6_
    refine start_ (n := 11) (S := fun w' => True) (ds := []) #[fy, fy, fy, fy, fy, fy, fy, fy, fy, fy, fy] (by kernel_rfl) rfl rfl trivial (fun hHeld => ?_); refine with_tabW impl_Pressed_open.tab12 impl_Pressed_open.bits12 (fun HT_ HW_ => ?_)
    generalize w68.drew = w69 at HO_4 HO_6 HO443 BK426 BK427 BK445 HB hHeld ⊢
    refine pu_ HT_ 0 42 #[ty, fy, fy, fy, fy, fy, fy, fy, fy, fy, fy] (by kernel_rfl) rfl rfl (fun _ _ _ h => h) (by rfl) (by intro w'; go_simp; with_reducible rfl) (by simp only [Act.put, sA_, sB_, sC_, i6_, i3_]; rfl) ?_
    refine pu_ HT_ 1 43 #[ty, ty, fy, fy, fy, fy, fy, fy, fy, fy, fy] (by kernel_rfl) rfl rfl (fun _ _ _ h => h) (by rfl) (by intro w'; go_simp; with_reducible rfl) (by simp only [Act.put, sA_, sB_, sC_, i6_, i3_]; rfl) ?_
    refine pu_ HT_ 2 44 #[ty, ty, ty, fy, fy, fy, fy, fy, fy, fy, fy] (by kernel_rfl) rfl rfl (fun _ _ _ h => h) (by rfl) (by intro w'; go_simp; with_reducible rfl) (by simp only [Act.put, sA_, sB_, sC_, i6_, i3_]; rfl) ?_
    refine pure_ (i := 3) (N := some 45) (v := undef) (a' := ?_) #[ty, ty, ty, ty, fy, fy, fy, fy, fy, fy, fy] rfl rfl (aO_ HT_.out (by kernel_rfl)) (fun _ _ _ h => h) (Or.inr ⟨by rfl, rfl⟩) ?_ ?_
    rotate_left
    ·
     simp only [Act.put, sA_, sB_, sC_, i6_, i3_]
     rfl
    refine pure_ (i := 4) (N := some 46) (v := undef) (a' := ?_) #[ty, ty, ty, ty, ty, fy, fy, fy, fy, fy, fy] rfl rfl (aO_ HT_.out (by kernel_rfl)) (fun _ _ _ h => h) (Or.inr ⟨by rfl, rfl⟩) ?_ ?_
    rotate_left
    ·
     simp only [Act.put, sA_, sB_, sC_, i6_, i3_]
     rfl
    refine pure_ (i := 5) (N := some 47) (v := undef) (a' := ?_) #[ty, ty, ty, ty, ty, ty, fy, fy, fy, fy, fy] rfl rfl (aO_ HT_.out (by kernel_rfl)) (fun _ _ _ h => h) (Or.inr ⟨by rfl, rfl⟩) ?_ ?_
    rotate_left
    ·
     simp only [Act.put, sA_, sB_, sC_, i6_, i3_]
     rfl
    refine pure_ (i := 6) (N := some 48) (v := undef) (a' := ?_) #[ty, ty, ty, ty, ty, ty, ty, fy, fy, fy, fy] rfl rfl (aO_ HT_.out (by kernel_rfl)) (fun _ _ _ h => h) (Or.inr ⟨by rfl, rfl⟩) ?_ ?_
    rotate_left
    ·
     simp only [Act.put, sA_, sB_, sC_, i6_, i3_]
     rfl
    refine pure_ (i := 7) (N := some 49) (v := undef) (a' := ?_) #[ty, ty, ty, ty, ty, ty, ty, ty, fy, fy, fy] rfl rfl (aO_ HT_.out (by kernel_rfl)) (fun _ _ _ h => h) (Or.inr ⟨by rfl, rfl⟩) ?_ ?_
    rotate_left
    ·
     simp only [Act.put, sA_, sB_, sC_, i6_, i3_]
     rfl
    refine pure_ (i := 8) (N := some 50) (v := undef) (a' := ?_) #[ty, ty, ty, ty, ty, ty, ty, ty, ty, fy, fy] rfl rfl (aO_ HT_.out (by kernel_rfl)) (fun _ _ _ h => h) (Or.inr ⟨by rfl, rfl⟩) ?_ ?_
    rotate_left
    ·
     simp only [Act.put, sA_, sB_, sC_, i6_, i3_]
     rfl
    refine pure_ (i := 9) (N := some 51) (v := undef) (a' := ?_) #[ty, ty, ty, ty, ty, ty, ty, ty, ty, ty, fy] rfl rfl (aO_ HT_.out (by kernel_rfl)) (fun _ _ _ h => h) (Or.inr ⟨by rfl, rfl⟩) ?_ ?_
    rotate_left
    ·
     simp only [Act.put, sA_, sB_, sC_, i6_, i3_]
     rfl
    refine pu_ HT_ 10 52 #[ty, ty, ty, ty, ty, ty, ty, ty, ty, ty, ty] (by kernel_rfl) rfl rfl (fun _ _ _ h => h) (by rfl) (by intro w'; go_simp; with_reducible rfl) (by simp only [Act.put, sA_, sB_, sC_, i6_, i3_]; rfl) ?_
    refine done_ (done_of HT_.out (by kernel_rfl)) ?_
    have hnb70 := NB427_426.out
    have hnc70 := NB426_427.out
    have hcz71_0 := c0_ BK427
    have hfz71_0 := bF_ BK427.out 0
    try go_wp2
    refine bodyPost_ret (results_ct rfl _ _ gb427 36 #[.slice none 0 0] (0, 0) _ rfl (by refine bP_ (cs := #[.slice none 0 0]) ?_ 0 _ rfl; exact BK427.out) Tryz.underlying36 rfl (by kernel_rfl)) rfl ?_
    exact ⟨_, by rfl, by exact Kd.R_nil _ _ _ _ _, by repeat with_reducible first | exact HB.out | apply bA_ | apply bN_ | apply bD_ | refine bS_ ?_ (Aside0.out ‹_›)⟩
   subst c30
   rw [if_pos rfl] at H
   replace H := oB_.mp H
   obtain ⟨t446, A310, H⟩ := H
   try dsimp only at H
   have A31 := aM_ A310
   clear A310
   replace H := oB_.mp H
   obtain ⟨t449, A320, H⟩ := H
   try dsimp only at H
   have A32 := aM_ A320
   clear A320
   by_cases c33 : t449 = true
   ·
    subst c33
    rw [if_pos rfl] at H
    simp only [Option.some.injEq, Prod.mk.injEq] at H
    obtain ⟨rfl, rfl⟩ := H
    obtain ⟨Ao34, co34, eo34⟩ := kS_ HO_6.out
    subst eo34
    try go_wp2_with (first | ((with_reducible refine gC_ (f := 61) rfl ?_); refine goesL_ (some 39) rfl rfl Tryz.func61 (by kernel_rfl) rfl #[.slice Ao34 x6_1.length co34] rfl (by (try simp only [sD_, sE_, sF_]); rfl) ?_; (with_reducible refine (impl_ofWords.calls k1 _ _ x6_1 t441 true _ ?side1 ?side2 A29.out).mono ?_); (case side1 => repeat (first | exact (kR_ HO_6.out).2.2 | with_reducible first | apply Kd.C_alloc | apply Kd.C_drewN | apply Kd.C_drew)); (case side2 => exact (kR_ HO_6.out).2.1); rintro e w35 ⟨v442, rfl, ho0, hb⟩; refine ⟨_, rfl, ?_⟩; replace HO_4 := k9_ HO_4 hb; replace HO_6 := k9_ HO_6 hb; have HO443 := aM_ (k5_ ho0 (bZ_ HB.out)); replace BK426 := b5_ BK426 hb; replace BK427 := b5_ BK427 hb; replace HB := b4_ HB hb; (try clear hb); (try clear ho0)) | (refine bx_ 9 #[.slice none 0 0] 36 (by with_reducible rfl) rfl (by go_simp; done) ?_; intro gb445 hg w36 hbox hb; replace HO_4 := k9_ HO_4 hb; replace HO_6 := k9_ HO_6 hb; replace HO443 := k9_ HO443 hb; have BK445 := aM_ (hbox); have GW445 := gw_ hg HB; replace HB := b4_ HB hb; have NB426_445 := nb_ hg BK426; have NB445_426 := ns_ NB426_445; replace BK426 := b5_ BK426 hb; have NB427_445 := nb_ hg BK427; have NB445_427 := ns_ NB427_445; replace BK427 := b5_ BK427 hb; clear hb hbox hg; obtain ⟨Ao37, co37, eo37⟩ := kS_ HO443.out; subst eo37; have hnb38 := NB445_426.out; have hnc38 := NB426_445.out; have hnb39 := NB445_427.out; have hnc39 := NB427_445.out; have hcz40_0 := c0_ BK445; have hfz40_0 := bF_ BK445.out 0))
    generalize hW_ : (w36.setCell ⟨gb445, 0, none⟩ (.slice Ao37 t441.length co37)) = w41
    have n0_ : Aside0 (Kd.R Kd.string 9 w41 w.heap.size (fun k_ => some k_ ≠ (.slice Ao34 x6_1.length co34 : Value).ownBlock) v429 t428) := ⟨by subst hW_; exact kM_ (kG_ (kT_ HO_4.out BK445.out (by decide))) (fun _ hk => hk.1)⟩
    have n1_ : Aside0 (Kd.R Kd.string 9 w41 w.heap.size (fun k_ => some k_ ≠ (v429 : Value).ownBlock) (.slice Ao34 x6_1.length co34) x6_1) := ⟨by subst hW_; exact kM_ (kG_ (kT_ HO_6.out BK445.out (by decide))) (fun _ hk => hk.1)⟩
    have n2_ : Aside0 (Kd.R k76 76 w41 w.heap.size (fun _ => True) (.slice Ao37 t441.length co37) t441) := ⟨by subst hW_; exact kM_ (kG_ (kT_ HO443.out BK445.out (by decide))) (fun _ hk => trivial)⟩
    have n3_ : Aside0 (w41.heap[gb426]? = some (.cells #[.slice A0_0 l0_0.length c0_0] 30 (0, 0))) := ⟨by subst hW_; exact br_ NB426_445.out (BK426.out)⟩
    have n4_ : Aside0 (w41.heap[gb427]? = some (.cells #[.slice none 0 0] 36 (0, 0))) := ⟨by subst hW_; exact br_ NB427_445.out (BK427.out)⟩
    have n5_ : Aside0 (w41.heap[gb445]? = some (.cells #[.slice Ao37 t441.length co37] 36 (0, 0))) := ⟨by subst hW_; refine bP_ (cs := #[.slice none 0 0]) ?_ 0 _ rfl; exact BK445.out⟩
    have n6_ : Aside0 (Below w.heap.size w w41) := ⟨by subst hW_; repeat with_reducible first | exact HB.out | apply bA_ | apply bN_ | apply bD_ | refine bS_ ?_ (Aside0.out ‹_›)⟩
    (try clear HO_4)
    (try clear HO_6)
    (try clear HO443)
    (try clear BK426)
    (try clear BK427)
    (try clear BK445)
    (try clear HB)
    clear hW_
    have HO_4 := n0_
    have HO_6 := n1_
    have HO443 := n2_
    have BK426 := n3_
    have BK427 := n4_
    have BK445 := n5_
    have HB := n6_
    clear n0_ n1_ n2_ n3_ n4_ n5_ n6_
    have n0_ := aM_ (k3_ HO_4.out)
    have n1_ := aM_ (k3_ HO_6.out)
    have n2_ := aM_ (k3_ HO443.out)
    have n3_ := aM_ (b1_ BK426.out)
    have n4_ := aM_ (b1_ BK427.out)
    have n5_ := aM_ (b1_ BK445.out)
    have n6_ := aM_ (bD_ HB.out)
    clear HO_4
    clear HO_6
    clear HO443
    clear BK426
    clear BK427
    clear BK445
    clear HB
    have HO_4 := n0_
    have HO_6 := n1_
    have HO443 := n2_
    have BK426 := n3_
    have BK427 := n4_
    have BK445 := n5_
    have HB := n6_
    clear n0_ n1_ n2_ n3_ n4_ n5_ n6_
    refine start_ (n := 11) (S := fun w' => w'.cell? ⟨gb445, 0, none⟩ = some (.slice Ao37 t441.length co37) ∧ w'.cell? ⟨gb426, 0, none⟩ = some (.slice A0_0 l0_0.length c0_0)) (ds := []) #[fy, fy, fy, fy, fy, fy, fy, fy, fy, fy, fy] (by kernel_rfl) rfl rfl ⟨(bC_ BK445.out 0).trans rfl, (bC_ BK426.out 0).trans rfl⟩ (fun hHeld => ?_); refine with_tabW impl_Pressed_open.tab12 impl_Pressed_open.bits12 (fun HT_ HW_ => ?_)
    generalize w41.drew = w42 at HO_4 HO_6 HO443 BK426 BK427 BK445 HB hHeld ⊢
    refine pu_ HT_ 0 42 #[ty, fy, fy, fy, fy, fy, fy, fy, fy, fy, fy] (by kernel_rfl) rfl rfl (fun _ _ _ h => h) (by rfl) (by intro w'; go_simp; with_reducible rfl) (by simp only [Act.put, sA_, sB_, sC_, i6_, i3_]; rfl) ?_
    refine pu_ HT_ 1 43 #[ty, ty, fy, fy, fy, fy, fy, fy, fy, fy, fy] (by kernel_rfl) rfl rfl (fun _ _ _ h => h) (by rfl) (by intro w'; go_simp; with_reducible rfl) (by simp only [Act.put, sA_, sB_, sC_, i6_, i3_]; rfl) ?_
    refine pu_ HT_ 2 44 #[ty, ty, ty, fy, fy, fy, fy, fy, fy, fy, fy] (by kernel_rfl) rfl rfl (fun _ _ _ h => h) (by rfl) (by intro w'; go_simp; with_reducible rfl) (by simp only [Act.put, sA_, sB_, sC_, i6_, i3_]; rfl) ?_
    refine pu_ HT_ 6 48 #[ty, ty, ty, fy, fy, fy, ty, fy, fy, fy, fy] (by kernel_rfl) rfl rfl (fun _ _ _ h => h) (by rfl) (by intro w'; go_simp; with_reducible rfl) (by simp only [Act.put, sA_, sB_, sC_, i6_, i3_]; rfl) ?_
    refine tk_ HT_ HW_ 3 45 #[ty, ty, ty, ty, fy, fy, ty, fy, fy, fy, fy] (by kernel_rfl) rfl rfl (fun _ _ _ h => h) (by rfl) (by rintro w' ⟨s0, s1⟩; go_simp; with_reducible rfl) hHeld (by simp only [Act.put, sA_, sB_, sC_, i6_, i3_]; rfl) ?_
    refine tk_ HT_ HW_ 7 49 #[ty, ty, ty, ty, fy, fy, ty, ty, fy, fy, fy] (by kernel_rfl) rfl rfl (fun _ _ _ h => h) (by rfl) (by rintro w' ⟨s0, s1⟩; go_simp; with_reducible rfl) hHeld (by simp only [Act.put, sA_, sB_, sC_, i6_, i3_]; rfl) ?_
    refine one_ (i := 4) (N := some 46) #[ty, ty, ty, ty, ty, fy, ty, ty, fy, fy, fy] rfl rfl (one_of HT_.out (by kernel_rfl)) (by decide) (fun K hK => ?_)
    refine goes_ Tryz.func63 (by kernel_rfl) rfl #[.agg #[.slice Ao37 t441.length co37]] (by rfl) rfl rfl (by (try simp only [sD_, sE_, sF_]); rfl) ?_
    with_reducible refine (impl_Trie_press.calls k1 _ _ t441 t446 _ ?side1 ?side2 A31.out).mono ?_
    (case side1 => repeat (first | exact (kR_ HO443.out).2.2 | with_reducible first | apply Kd.C_alloc | apply Kd.C_drewN | apply Kd.C_drew))
    (case side2 => exact (kR_ HO443.out).2.1)
    rintro e w43 ⟨v447, rfl, ho0, hb⟩
    refine ⟨_, rfl, ?_⟩
    have n0_ := k9_ HO_4 hb
    have n1_ := k9_ HO_6 hb
    have n2_ := k9_ HO443 hb
    have n3_ := aM_ (k5_ ho0 (bZ_ HB.out))
    have n4_ := b5_ BK426 hb
    have n5_ := b5_ BK427 hb
    have n6_ := b5_ BK445 hb
    have n7_ := b4_ HB hb
    clear HO_4
    clear HO_6
    clear HO443
    clear BK426
    clear BK427
    clear BK445
    clear HB
    have HO_4 := n0_
    have HO_6 := n1_
    have HO443 := n2_
    have HO448 := n3_
    have BK426 := n4_
    have BK427 := n5_
    have BK445 := n6_
    have HB := n7_
    clear n0_ n1_ n2_ n3_ n4_ n5_ n6_ n7_
    (try clear hb)
    (try clear ho0)
    obtain ⟨Ao44, co44, eo44⟩ := kS_ HO448.out
    (subst eo44)
    refine hK.out _ _ ⟨(bC_ BK445.out 0).trans rfl, (bC_ BK426.out 0).trans rfl⟩ (fun hHeld => ?_)
    clear hK K
    refine norm_ (by show Act.put _ (some 46) _ = _; simp only [Act.put, sA_, sB_, sC_, i6_, i3_]; rfl) ?_
    refine pu_ HT_ 5 47 #[ty, ty, ty, ty, ty, ty, ty, ty, fy, fy, fy] (by kernel_rfl) rfl rfl (fun _ _ _ h => h) (by rfl) (by intro w'; go_simp; with_reducible rfl) (by simp only [Act.put, sA_, sB_, sC_, i6_, i3_]; rfl) ?_
    refine one_ (i := 8) (N := some 50) #[ty, ty, ty, ty, ty, ty, ty, ty, ty, fy, fy] rfl rfl (one_of HT_.out (by kernel_rfl)) (by decide) (fun K hK => ?_)
    refine goes_ Tryz.func62 (by kernel_rfl) rfl #[.slice Ao44 t446.length co44, .slice A0_0 l0_0.length c0_0] (by rfl) rfl rfl (by (try simp only [sD_, sE_, sF_]); rfl) ?_
    with_reducible refine (impl_Branch.calls k1 _ _ t446 _ _ l0_0 true _ ?side1 ?side2 ?side3 ?side4 A32.out).mono ?_
    (case side1 => repeat (first | exact (kR_ HO448.out).2.2 | with_reducible first | apply Kd.C_alloc | apply Kd.C_drewN | apply Kd.C_drew))
    (case side2 => exact (kR_ HO448.out).2.1)
    (case side3 => repeat (first | exact (k4_ HR0_0.out HB.out) | with_reducible first | apply Kd.C_alloc | apply Kd.C_drewN | apply Kd.C_drew))
    (case side4 => exact HC0_0.out)
    rintro e w' ⟨rfl, ⟨nd, rfl⟩⟩
    refine ⟨_, rfl, ?_⟩
    refine hK.out _ _ ⟨(bC_ BK445.out 0).trans rfl, (bC_ BK426.out 0).trans rfl⟩ (fun hHeld => ?_)
    clear hK K
    refine norm_ (by show Act.put _ (some 50) _ = _; simp only [Act.put, sA_, sB_, sC_, i6_, i3_]; rfl) ?_
    refine pu_ HT_ 9 51 #[ty, ty, ty, ty, ty, ty, ty, ty, ty, ty, fy] (by kernel_rfl) rfl rfl (fun _ _ _ h => h) (by rfl) (by intro w'; go_simp; with_reducible rfl) (by simp only [Act.put, sA_, sB_, sC_, i6_, i3_]; rfl) ?_
    refine pu_ HT_ 10 52 #[ty, ty, ty, ty, ty, ty, ty, ty, ty, ty, ty] (by kernel_rfl) rfl rfl (fun _ _ _ h => h) (by rfl) (by intro w'; go_simp; with_reducible rfl) (by simp only [Act.put, sA_, sB_, sC_, i6_, i3_]; rfl) ?_
    refine done_ (done_of HT_.out (by kernel_rfl)) ?_
    have hcz45_0 := c0_ BK445
    have hfz45_0 := bF_ BK445.out 0
    have hnb46 := NB427_426.out
    have hnc46 := NB426_427.out
    have hcz47_0 := c0_ BK427
    have hfz47_0 := bF_ BK427.out 0
    try go_wp2
    refine bodyPost_ret (results_ct rfl _ _ gb427 36 #[.slice Ao37 t441.length co37] (0, 0) _ rfl (by refine bP_ (cs := #[.slice none 0 0]) ?_ 0 _ rfl; (with_reducible repeat (first | refine b2_ ?_ _ | refine b1_ ?_ | refine b3_ ?_ _)); exact BK427.out) Tryz.underlying36 rfl (by kernel_rfl)) rfl ?_
    exact ⟨_, by rfl, by exact kM_ (kG_ (kT_ HO443.out BK427.out (by decide))) (fun _ hk => trivial), by repeat with_reducible first | exact HB.out | apply bA_ | apply bN_ | apply bD_ | refine bS_ ?_ (Aside0.out ‹_›)⟩
   replace c33 := Bool.eq_false_iff.mpr c33
   subst c33
   replace H : (some (([] : List (S76)), false)) = some (r1, r2) := by rw [if_neg (show ¬ (false = true) by decide)] at H; exact H
   simp only [Option.some.injEq, Prod.mk.injEq] at H
   obtain ⟨rfl, rfl⟩ := H
   obtain ⟨Ao48, co48, eo48⟩ := kS_ HO_6.out
   subst eo48
   try go_wp2_with (first | ((with_reducible refine gC_ (f := 61) rfl ?_); refine goesL_ (some 39) rfl rfl Tryz.func61 (by kernel_rfl) rfl #[.slice Ao48 x6_1.length co48] rfl (by (try simp only [sD_, sE_, sF_]); rfl) ?_; (with_reducible refine (impl_ofWords.calls k1 _ _ x6_1 t441 true _ ?side1 ?side2 A29.out).mono ?_); (case side1 => repeat (first | exact (kR_ HO_6.out).2.2 | with_reducible first | apply Kd.C_alloc | apply Kd.C_drewN | apply Kd.C_drew)); (case side2 => exact (kR_ HO_6.out).2.1); rintro e w49 ⟨v442, rfl, ho0, hb⟩; refine ⟨_, rfl, ?_⟩; replace HO_4 := k9_ HO_4 hb; replace HO_6 := k9_ HO_6 hb; have HO443 := aM_ (k5_ ho0 (bZ_ HB.out)); replace BK426 := b5_ BK426 hb; replace BK427 := b5_ BK427 hb; replace HB := b4_ HB hb; (try clear hb); (try clear ho0)) | (refine bx_ 9 #[.slice none 0 0] 36 (by with_reducible rfl) rfl (by go_simp; done) ?_; intro gb445 hg w50 hbox hb; replace HO_4 := k9_ HO_4 hb; replace HO_6 := k9_ HO_6 hb; replace HO443 := k9_ HO443 hb; have BK445 := aM_ (hbox); have GW445 := gw_ hg HB; replace HB := b4_ HB hb; have NB426_445 := nb_ hg BK426; have NB445_426 := ns_ NB426_445; replace BK426 := b5_ BK426 hb; have NB427_445 := nb_ hg BK427; have NB445_427 := ns_ NB427_445; replace BK427 := b5_ BK427 hb; clear hb hbox hg; obtain ⟨Ao51, co51, eo51⟩ := kS_ HO443.out; subst eo51; have hnb52 := NB445_426.out; have hnc52 := NB426_445.out; have hnb53 := NB445_427.out; have hnc53 := NB427_445.out; have hcz54_0 := c0_ BK445; have hfz54_0 := bF_ BK445.out 0))
   generalize hW_ : (w50.setCell ⟨gb445, 0, none⟩ (.slice Ao51 t441.length co51)) = w55
   have n0_ : Aside0 (Kd.R Kd.string 9 w55 w.heap.size (fun k_ => some k_ ≠ (.slice Ao48 x6_1.length co48 : Value).ownBlock) v429 t428) := ⟨by subst hW_; exact kM_ (kG_ (kT_ HO_4.out BK445.out (by decide))) (fun _ hk => hk.1)⟩
   have n1_ : Aside0 (Kd.R Kd.string 9 w55 w.heap.size (fun k_ => some k_ ≠ (v429 : Value).ownBlock) (.slice Ao48 x6_1.length co48) x6_1) := ⟨by subst hW_; exact kM_ (kG_ (kT_ HO_6.out BK445.out (by decide))) (fun _ hk => hk.1)⟩
   have n2_ : Aside0 (Kd.R k76 76 w55 w.heap.size (fun _ => True) (.slice Ao51 t441.length co51) t441) := ⟨by subst hW_; exact kM_ (kG_ (kT_ HO443.out BK445.out (by decide))) (fun _ hk => trivial)⟩
   have n3_ : Aside0 (w55.heap[gb426]? = some (.cells #[.slice A0_0 l0_0.length c0_0] 30 (0, 0))) := ⟨by subst hW_; exact br_ NB426_445.out (BK426.out)⟩
   have n4_ : Aside0 (w55.heap[gb427]? = some (.cells #[.slice none 0 0] 36 (0, 0))) := ⟨by subst hW_; exact br_ NB427_445.out (BK427.out)⟩
   have n5_ : Aside0 (w55.heap[gb445]? = some (.cells #[.slice Ao51 t441.length co51] 36 (0, 0))) := ⟨by subst hW_; refine bP_ (cs := #[.slice none 0 0]) ?_ 0 _ rfl; exact BK445.out⟩
   have n6_ : Aside0 (Below w.heap.size w w55) := ⟨by subst hW_; repeat with_reducible first | exact HB.out | apply bA_ | apply bN_ | apply bD_ | refine bS_ ?_ (Aside0.out ‹_›)⟩
   (try clear HO_4)
   (try clear HO_6)
   (try clear HO443)
   (try clear BK426)
   (try clear BK427)
   (try clear BK445)
   (try clear HB)
   clear hW_
   have HO_4 := n0_
   have HO_6 := n1_
   have HO443 := n2_
   have BK426 := n3_
   have BK427 := n4_
   have BK445 := n5_
   have HB := n6_
   clear n0_ n1_ n2_ n3_ n4_ n5_ n6_
   have n0_ := aM_ (k3_ HO_4.out)
   have n1_ := aM_ (k3_ HO_6.out)
   have n2_ := aM_ (k3_ HO443.out)
   have n3_ := aM_ (b1_ BK426.out)
   have n4_ := aM_ (b1_ BK427.out)
   have n5_ := aM_ (b1_ BK445.out)
   have n6_ := aM_ (bD_ HB.out)
   clear HO_4
   clear HO_6
   clear HO443
   clear BK426
   clear BK427
   clear BK445
   clear HB
   have HO_4 := n0_
   have HO_6 := n1_
   have HO443 := n2_
   have BK426 := n3_
   have BK427 := n4_
   have BK445 := n5_
   have HB := n6_
   clear n0_ n1_ n2_ n3_ n4_ n5_ n6_
   refine start_ (n := 11) (S := fun w' => w'.cell? ⟨gb445, 0, none⟩ = some (.slice Ao51 t441.length co51) ∧ w'.cell? ⟨gb426, 0, none⟩ = some (.slice A0_0 l0_0.length c0_0)) (ds := []) #[fy, fy, fy, fy, fy, fy, fy, fy, fy, fy, fy] (by kernel_rfl) rfl rfl ⟨(bC_ BK445.out 0).trans rfl, (bC_ BK426.out 0).trans rfl⟩ (fun hHeld => ?_); refine with_tabW impl_Pressed_open.tab12 impl_Pressed_open.bits12 (fun HT_ HW_ => ?_)
   generalize w55.drew = w56 at HO_4 HO_6 HO443 BK426 BK427 BK445 HB hHeld ⊢
   refine pu_ HT_ 0 42 #[ty, fy, fy, fy, fy, fy, fy, fy, fy, fy, fy] (by kernel_rfl) rfl rfl (fun _ _ _ h => h) (by rfl) (by intro w'; go_simp; with_reducible rfl) (by simp only [Act.put, sA_, sB_, sC_, i6_, i3_]; rfl) ?_
   refine pu_ HT_ 1 43 #[ty, ty, fy, fy, fy, fy, fy, fy, fy, fy, fy] (by kernel_rfl) rfl rfl (fun _ _ _ h => h) (by rfl) (by intro w'; go_simp; with_reducible rfl) (by simp only [Act.put, sA_, sB_, sC_, i6_, i3_]; rfl) ?_
   refine pu_ HT_ 2 44 #[ty, ty, ty, fy, fy, fy, fy, fy, fy, fy, fy] (by kernel_rfl) rfl rfl (fun _ _ _ h => h) (by rfl) (by intro w'; go_simp; with_reducible rfl) (by simp only [Act.put, sA_, sB_, sC_, i6_, i3_]; rfl) ?_
   refine pu_ HT_ 6 48 #[ty, ty, ty, fy, fy, fy, ty, fy, fy, fy, fy] (by kernel_rfl) rfl rfl (fun _ _ _ h => h) (by rfl) (by intro w'; go_simp; with_reducible rfl) (by simp only [Act.put, sA_, sB_, sC_, i6_, i3_]; rfl) ?_
   refine tk_ HT_ HW_ 3 45 #[ty, ty, ty, ty, fy, fy, ty, fy, fy, fy, fy] (by kernel_rfl) rfl rfl (fun _ _ _ h => h) (by rfl) (by rintro w' ⟨s0, s1⟩; go_simp; with_reducible rfl) hHeld (by simp only [Act.put, sA_, sB_, sC_, i6_, i3_]; rfl) ?_
   refine tk_ HT_ HW_ 7 49 #[ty, ty, ty, ty, fy, fy, ty, ty, fy, fy, fy] (by kernel_rfl) rfl rfl (fun _ _ _ h => h) (by rfl) (by rintro w' ⟨s0, s1⟩; go_simp; with_reducible rfl) hHeld (by simp only [Act.put, sA_, sB_, sC_, i6_, i3_]; rfl) ?_
   refine one_ (i := 4) (N := some 46) #[ty, ty, ty, ty, ty, fy, ty, ty, fy, fy, fy] rfl rfl (one_of HT_.out (by kernel_rfl)) (by decide) (fun K hK => ?_)
   refine goes_ Tryz.func63 (by kernel_rfl) rfl #[.agg #[.slice Ao51 t441.length co51]] (by rfl) rfl rfl (by (try simp only [sD_, sE_, sF_]); rfl) ?_
   with_reducible refine (impl_Trie_press.calls k1 _ _ t441 t446 _ ?side1 ?side2 A31.out).mono ?_
   (case side1 => repeat (first | exact (kR_ HO443.out).2.2 | with_reducible first | apply Kd.C_alloc | apply Kd.C_drewN | apply Kd.C_drew))
   (case side2 => exact (kR_ HO443.out).2.1)
   rintro e w57 ⟨v447, rfl, ho0, hb⟩
   refine ⟨_, rfl, ?_⟩
   have n0_ := k9_ HO_4 hb
   have n1_ := k9_ HO_6 hb
   have n2_ := k9_ HO443 hb
   have n3_ := aM_ (k5_ ho0 (bZ_ HB.out))
   have n4_ := b5_ BK426 hb
   have n5_ := b5_ BK427 hb
   have n6_ := b5_ BK445 hb
   have n7_ := b4_ HB hb
   clear HO_4
   clear HO_6
   clear HO443
   clear BK426
   clear BK427
   clear BK445
   clear HB
   have HO_4 := n0_
   have HO_6 := n1_
   have HO443 := n2_
   have HO448 := n3_
   have BK426 := n4_
   have BK427 := n5_
   have BK445 := n6_
   have HB := n7_
   clear n0_ n1_ n2_ n3_ n4_ n5_ n6_ n7_
   (try clear hb)
   (try clear ho0)
   obtain ⟨Ao58, co58, eo58⟩ := kS_ HO448.out
   (subst eo58)
   refine hK.out _ _ ⟨(bC_ BK445.out 0).trans rfl, (bC_ BK426.out 0).trans rfl⟩ (fun hHeld => ?_)
   clear hK K
   refine norm_ (by show Act.put _ (some 46) _ = _; simp only [Act.put, sA_, sB_, sC_, i6_, i3_]; rfl) ?_
   refine pu_ HT_ 5 47 #[ty, ty, ty, ty, ty, ty, ty, ty, fy, fy, fy] (by kernel_rfl) rfl rfl (fun _ _ _ h => h) (by rfl) (by intro w'; go_simp; with_reducible rfl) (by simp only [Act.put, sA_, sB_, sC_, i6_, i3_]; rfl) ?_
   refine one_ (i := 8) (N := some 50) #[ty, ty, ty, ty, ty, ty, ty, ty, ty, fy, fy] rfl rfl (one_of HT_.out (by kernel_rfl)) (by decide) (fun K hK => ?_)
   refine goes_ Tryz.func62 (by kernel_rfl) rfl #[.slice Ao58 t446.length co58, .slice A0_0 l0_0.length c0_0] (by rfl) rfl rfl (by (try simp only [sD_, sE_, sF_]); rfl) ?_
   with_reducible refine (impl_Branch.calls k1 _ _ t446 _ _ l0_0 false _ ?side1 ?side2 ?side3 ?side4 A32.out).mono ?_
   (case side1 => repeat (first | exact (kR_ HO448.out).2.2 | with_reducible first | apply Kd.C_alloc | apply Kd.C_drewN | apply Kd.C_drew))
   (case side2 => exact (kR_ HO448.out).2.1)
   (case side3 => repeat (first | exact (k4_ HR0_0.out HB.out) | with_reducible first | apply Kd.C_alloc | apply Kd.C_drewN | apply Kd.C_drew))
   (case side4 => exact HC0_0.out)
   rintro e w' ⟨rfl, ⟨nd, rfl⟩⟩
   refine ⟨_, rfl, ?_⟩
   refine hK.out _ _ ⟨(bC_ BK445.out 0).trans rfl, (bC_ BK426.out 0).trans rfl⟩ (fun hHeld => ?_)
   clear hK K
   refine norm_ (by show Act.put _ (some 50) _ = _; simp only [Act.put, sA_, sB_, sC_, i6_, i3_]; rfl) ?_
   refine pu_ HT_ 9 51 #[ty, ty, ty, ty, ty, ty, ty, ty, ty, ty, fy] (by kernel_rfl) rfl rfl (fun _ _ _ h => h) (by rfl) (by intro w'; go_simp; with_reducible rfl) (by simp only [Act.put, sA_, sB_, sC_, i6_, i3_]; rfl) ?_
   refine pu_ HT_ 10 52 #[ty, ty, ty, ty, ty, ty, ty, ty, ty, ty, ty] (by kernel_rfl) rfl rfl (fun _ _ _ h => h) (by rfl) (by intro w'; go_simp; with_reducible rfl) (by simp only [Act.put, sA_, sB_, sC_, i6_, i3_]; rfl) ?_
   refine done_ (done_of HT_.out (by kernel_rfl)) ?_
   have hnb59 := NB427_426.out
   have hnc59 := NB426_427.out
   have hcz60_0 := c0_ BK427
   have hfz60_0 := bF_ BK427.out 0
   try go_wp2
   refine bodyPost_ret (results_ct rfl _ _ gb427 36 #[.slice none 0 0] (0, 0) _ rfl (by refine bP_ (cs := #[.slice none 0 0]) ?_ 0 _ rfl; (with_reducible repeat (first | refine b2_ ?_ _ | refine b1_ ?_ | refine b3_ ?_ _)); exact BK427.out) Tryz.underlying36 rfl (by kernel_rfl)) rfl ?_
   exact ⟨_, by rfl, by exact Kd.R_nil _ _ _ _ _, by repeat with_reducible first | exact HB.out | apply bA_ | apply bN_ | apply bD_ | refine bS_ ?_ (Aside0.out ‹_›)⟩
def impl_Trie_words.l0 : Nat → List ByteArray → List ByteArray → List (S76) → Int → Int → Option (List ByteArray)
 | 0, _, _, _, _, _ => none
 | k + 1, x3, x5, x15, x16, x17 => if x17 < x16 then (if 0 ≤ x17 then (if x17 < (x15.length : Int) then (if (rd_T76 x15 x17).f2 = true then (if x17 < (x3.length : Int) then (if x5.length < 8796093022208 then (impl_Trie_words.l0 k x3 (x5 ++ [rdOf eB_ x3 x17]) x15 x16 (wrap64 (x17 + 1))) else (none)) else (none)) else (impl_Trie_words.l0 k x3 x5 x15 x16 (wrap64 (x17 + 1)))) else (none)) else (none)) else (some x5)
def impl_Trie_words.f (k : Nat) (l0_0 : List (S76)) : Option (List ByteArray) := (impl_Trie_prefixes.f k l0_0).bind fun bt453 => (impl_Trie_words.l0 k bt453.1 (([] : List ByteArray)) l0_0 (l0_0.length : Int) 0)
theorem impl_Trie_words.mono_l : ∀ k, (∀ y0 y1 y2 y3 y4, LeO (impl_Trie_words.l0 k y0 y1 y2 y3 y4) (impl_Trie_words.l0 (k + 1) y0 y1 y2 y3 y4))
 | 0 => fun _ _ _ _ _ r h => by simp [impl_Trie_words.l0] at h
 | k + 1 => by
  have ih0 := impl_Trie_words.mono_l k
  intro y0 y1 y2 y3 y4
  unfold impl_Trie_words.l0
  repeat' with_reducible first | exact ih0 _ _ _ _ _ | exact impl_Trie_prefixes.mono _ _ | exact l3_ _ | exact l0_ _ | refine l2_ ?_ ?_ | refine l1_ ?_ (fun _ => ?_)
theorem impl_Trie_words.mono : ∀ a0 k, LeO (impl_Trie_words.f k a0) (impl_Trie_words.f (k + 1) a0) := by
 intro a0 k
 have ih0 := impl_Trie_words.mono_l k
 unfold impl_Trie_words.f
 repeat' with_reducible first | exact ih0 _ _ _ _ _ | exact impl_Trie_prefixes.mono _ _ | exact l3_ _ | exact l0_ _ | refine l2_ ?_ ?_ | refine l1_ ?_ (fun _ => ?_)
theorem impl_Trie_words.calls (k : Nat) (A0_0 : Option Addr) (c0_0 : Nat) (l0_0 : List (S76)) (r : List ByteArray) (w : World) (hr0_0 : Kd.C k76 w A0_0 l0_0.length l0_0) (hc0_0 : l0_0.length ≤ c0_0) (h : impl_Trie_words.f k l0_0 = some r) :
  Calls Tryz.prog 66 #[.agg #[.slice A0_0 l0_0.length c0_0]] w fun e w' => ∃ v0_ : Value, e = .returned (v0_) ∧ Kd.R Kd.string 9 w' w.heap.size (fun _ => True) v0_ r ∧ Below w.heap.size w w' := by
 have hu36 := Tryz.underlying36
 have hu76 := Tryz.underlying76
 have HR0_0 := aM_ hr0_0
 have HC0_0 := aM_ hc0_0
 clear hr0_0 hc0_0
 have HB := aM_ (Below.refl w.heap.size w)
 have H : ((impl_Trie_prefixes.f k l0_0).bind fun bt453 => (impl_Trie_words.l0 k bt453.1 (([] : List ByteArray)) l0_0 (l0_0.length : Int) 0)) = some r := h
 clear h
 replace H := oB_.mp H
 obtain ⟨⟨t453, t456⟩, A20, H⟩ := H
 try dsimp only at H
 have A2 := aM_ A20
 clear A20
 obtain ⟨y457, hy457⟩ : ∃ y_ : List ByteArray, y_ = (([] : List ByteArray)) := ⟨_, rfl⟩
 replace H : (impl_Trie_words.l0 k t453 y457 l0_0 (l0_0.length : Int) 0) = some r := by (try rw [hy457]); first | with_reducible exact H | with_reducible exact (Option.bind_some _ _).symm.trans H | exact H
 have Ny457 := aM_ hy457
 clear hy457
 have H' := aM_ H
 clear H
 go_enter Tryz.func66, Tryz.ntmps66
 go_wp2_with (first | (refine bx_ 1 #[.slice A0_0 l0_0.length c0_0] 36 (by with_reducible rfl) rfl (by go_simp; done) ?_; intro gb452 hg w3 hbox hb; have BK452 := aM_ (hbox); have GW452 := gw_ hg HB; replace HB := b4_ HB hb; clear hb hbox hg; have hcz4_0 := c0_ BK452; have hfz4_0 := bF_ BK452.out 0) | ((with_reducible refine gC_ (f := 83) rfl ?_); refine goesL_ (some 10) rfl rfl Tryz.func83 (by kernel_rfl) rfl #[.agg #[.slice A0_0 l0_0.length c0_0]] rfl (by (try simp only [sD_, sE_, sF_]); rfl) ?_; (with_reducible refine (impl_Trie_prefixes.calls k _ _ l0_0 t453 t456 _ ?side1 HC0_0.out A2.out).mono ?_); (case side1 => repeat (first | exact (k4_ HR0_0.out HB.out) | with_reducible first | apply Kd.C_alloc | apply Kd.C_drewN | apply Kd.C_drew)); rintro e w5 ⟨v454, rfl, ho0, hb⟩; refine ⟨_, rfl, ?_⟩; have HO455 := aM_ (k5_ ho0 (bZ_ HB.out)); replace BK452 := b5_ BK452 hb; replace HB := b4_ HB hb; (try clear hb); (try clear ho0)) | ((with_reducible refine gD_ (N := 13) rfl ?_); refine Kd.R_lit Kd.string _ 9 ?hg (N := 13) ?hd (xs := ([] : List ByteArray)) (inner := []) (ok := fun _ => True) (okp := fun _ => True) ?hr ?hp (fun _ hk => hk) trivial (Below.refl _ _) (Nat.le_refl _) (by simp) ?_; (case hd => rfl); (case hg => rfl); (case hr => (go_simp; done)); (case hp => exact (Reps.none _ _)); intro v458 w6 ho7 hb hg_ hnew_; clear hg_ hnew_; (rw [← Ny457.out] at ho7); have HO459 := aM_ (k5_ (Kd.R_new' ho7 (Kd.R_lt HO455.out)) (bZ_ HB.out)); replace HO455 := aM_ (Kd.R_elder' HO455.out (Kd.R_base ho7) hb); replace BK452 := b5_ BK452 hb; replace HB := b4_ HB hb; clear hb ho7; have hcz8_0 := c0_ BK452; have hfz8_0 := bF_ BK452.out 0))
 go_loopg [5, 17] k (fun kq v5 v17 w' => ∃ (x5_1 : List ByteArray) (x17_1 : Int), v17 = .int .i64 x17_1 ∧ Aside0 (impl_Trie_words.l0 kq t453 x5_1 l0_0 (l0_0.length : Int) x17_1 = some r) ∧ Aside0 (kq ≤ k) ∧ Aside0 (Kd.R Kd.string 9 w' w.heap.size (fun k_ => some k_ ≠ (v5 : Value).ownBlock) v454 t453) ∧ Aside0 (Kd.R Kd.string 9 w' w.heap.size (fun k_ => some k_ ≠ (v454 : Value).ownBlock) v5 x5_1) ∧ Aside0 (w'.heap[gb452]? = some (.cells #[(.slice A0_0 l0_0.length c0_0)] 36 (0, 0))) ∧ Aside0 (Below w.heap.size w w'))
 case atStart => exact ⟨(y457), (0), (by rfl), H', ⟨Nat.le_refl _⟩, ⟨by exact kM_ HO455.out (fun _ hk => hk.2)⟩, ⟨by exact kM_ HO459.out (fun _ hk => hk.2)⟩, ⟨BK452.out⟩, ⟨HB.out⟩⟩
 case round =>
  clear H'
  try clear p2
  try clear hcz4_0
  try clear hcz8_0
  try clear hfz4_0
  try clear hfz8_0
  obtain ⟨x5_1, x17_1, rfl, HA, HK1, HO_3, HO_5, BK452, HB⟩ := hrel
  cases gk with
  | zero => exact absurd HA.out (by simp [impl_Trie_words.l0])
  | succ k1 =>
   have H := HA.out
   clear HA
   simp only [impl_Trie_words.l0] at H
   by_cases c9 : x17_1 < (l0_0.length : Int)
   rotate_left
   ·
    rw [if_neg c9] at H
    have c9b0 := decide_eq_false c9
    clear c9
    obtain rfl := Option.some.inj H
    go_wp2
    go_ret
    exact ⟨_, by rfl, by exact kM_ HO_5.out (fun _ hk => trivial), by exact HB.out⟩
   rw [if_pos c9] at H
   have c9b0 := decide_eq_true c9
   clear c9
   by_cases c10 : 0 ≤ x17_1
   rotate_left
   ·
    rw [if_neg c10] at H
    exact absurd H (by simp)
   rw [if_pos c10] at H
   have c10b0 := decide_eq_true c10
   clear c10
   by_cases c11 : x17_1 < (l0_0.length : Int)
   rotate_left
   ·
    rw [if_neg c11] at H
    exact absurd H (by simp)
   rw [if_pos c11] at H
   have c11b0 := decide_eq_true c11
   clear c11
   obtain ⟨bq12, hbq12⟩ : ∃ b_ : Bool, b_ = ((rd_T76 l0_0 x17_1).f2) := ⟨_, rfl⟩
   replace H : (if bq12 = true then (if x17_1 < (t453.length : Int) then (if x5_1.length < 8796093022208 then (impl_Trie_words.l0 k1 t453 (x5_1 ++ [rdOf eB_ t453 x17_1]) l0_0 (l0_0.length : Int) (wrap64 (x17_1 + 1))) else (none)) else (none)) else (impl_Trie_words.l0 k1 t453 x5_1 l0_0 (l0_0.length : Int) (wrap64 (x17_1 + 1)))) = some r := by rw [← hbq12] at H; exact H
   have Nbq12 := aM_ hbq12
   clear hbq12
   by_cases c13 : bq12 = true
   rotate_left
   ·
    replace c13 := Bool.eq_false_iff.mpr c13
    subst c13
    replace H : (impl_Trie_words.l0 k1 t453 x5_1 l0_0 (l0_0.length : Int) (wrap64 (x17_1 + 1))) = some r := by rw [if_neg (show ¬ (false = true) by decide)] at H; exact H
    have H' := aM_ H
    clear H
    have p460 : 0 ≤ (x17_1 : Int) := of_decide_eq_true ‹_›
    have q460 : x17_1 < (l0_0.length : Int) := of_decide_eq_true ‹_›
    obtain ⟨ad460, e460, hx460_0, hx460_1, hx460_2⟩ := at_T76 HR0_0.out x17_1 p460 q460
    (try rw [← Nbq12.out] at hx460_2)
    cases e460
    replace hx460_0 := cb_ HB hx460_0
    replace hx460_1 := cb_ HB hx460_1
    replace hx460_2 := cb_ HB hx460_2
    replace p460 := eq_true p460
    replace q460 := eq_true q460
    go_wp2_with (first | (refine bx_ 7 #[.int .i64 0, .int .i64 0, .bool false] 76 (by with_reducible rfl) rfl (by go_simp; done) ?_; intro gb461 hg w21 hbox hb; replace HO_3 := k9_ HO_3 hb; replace HO_5 := k9_ HO_5 hb; have BK461 := aM_ (hbox); have GW461 := gw_ hg HB; replace HB := b4_ HB hb; have NB452_461 := nb_ hg BK452; have NB461_452 := ns_ NB452_461; replace BK452 := b5_ BK452 hb; clear hb hbox hg; have hnb22 := NB461_452.out; have hnc22 := NB452_461.out; have hcz23_0 := c0_ BK461; have hcz23_1 := c1_ BK461; have hcz23_2 := c2_ BK461; have hfz23_0 := bF_ BK461.out 0; have hfz23_1 := bF_ BK461.out 1; have hfz23_2 := bF_ BK461.out 2))
    go_roundg k1
    case measure => have := HK1.out; omega
    case rel => exact ⟨(x5_1), (wrap64 (x17_1 + 1)), (by rfl), H', ⟨by have := HK1.out; omega⟩, ⟨by exact kM_ (kG_ (kG_ (kG_ (kT_ HO_3.out BK461.out (by decide))))) (fun _ hk => hk.1)⟩, ⟨by exact kM_ (kG_ (kG_ (kG_ (kT_ HO_5.out BK461.out (by decide))))) (fun _ hk => hk.1)⟩, ⟨by exact br_ NB452_461.out (br_ NB452_461.out (br_ NB452_461.out (BK452.out)))⟩, ⟨by repeat with_reducible first | exact HB.out | apply bA_ | apply bN_ | apply bD_ | refine bS_ ?_ (Aside0.out ‹_›)⟩⟩
   subst c13
   rw [if_pos rfl] at H
   by_cases c14 : x17_1 < (t453.length : Int)
   rotate_left
   ·
    rw [if_neg c14] at H
    exact absurd H (by simp)
   rw [if_pos c14] at H
   have c14b0 := decide_eq_true c14
   clear c14
   by_cases c15 : x5_1.length < 8796093022208
   rotate_left
   ·
    rw [if_neg c15] at H
    exact absurd H (by simp)
   rw [if_pos c15] at H
   have LMc15 := aM_ c15
   clear c15
   obtain ⟨y463, hy463⟩ : ∃ y_ : List ByteArray, y_ = (x5_1 ++ [rdOf eB_ t453 x17_1]) := ⟨_, rfl⟩
   replace H : (impl_Trie_words.l0 k1 t453 y463 l0_0 (l0_0.length : Int) (wrap64 (x17_1 + 1))) = some r := by (try rw [hy463]); first | with_reducible exact H | with_reducible exact (Option.bind_some _ _).symm.trans H | exact H
   have Ny463 := aM_ hy463
   clear hy463
   have H' := aM_ H
   clear H
   have p460 : 0 ≤ (x17_1 : Int) := of_decide_eq_true ‹_›
   have q460 : x17_1 < (l0_0.length : Int) := of_decide_eq_true ‹_›
   obtain ⟨ad460, e460, hx460_0, hx460_1, hx460_2⟩ := at_T76 HR0_0.out x17_1 p460 q460
   (try rw [← Nbq12.out] at hx460_2)
   cases e460
   replace hx460_0 := cb_ HB hx460_0
   replace hx460_1 := cb_ HB hx460_1
   replace hx460_2 := cb_ HB hx460_2
   replace p460 := eq_true p460
   replace q460 := eq_true q460
   go_wp2_with (first | (refine bx_ 7 #[.int .i64 0, .int .i64 0, .bool false] 76 (by with_reducible rfl) rfl (by go_simp; done) ?_; intro gb461 hg w16 hbox hb; replace HO_3 := k9_ HO_3 hb; replace HO_5 := k9_ HO_5 hb; have BK461 := aM_ (hbox); have GW461 := gw_ hg HB; replace HB := b4_ HB hb; have NB452_461 := nb_ hg BK452; have NB461_452 := ns_ NB452_461; replace BK452 := b5_ BK452 hb; clear hb hbox hg; have hnb17 := NB461_452.out; have hnc17 := NB452_461.out; have hcz18_0 := c0_ BK461; have hcz18_1 := c1_ BK461; have hcz18_2 := c2_ BK461; have hfz18_0 := bF_ BK461.out 0; have hfz18_1 := bF_ BK461.out 1; have hfz18_2 := bF_ BK461.out 2; obtain ⟨Ao19, co19, eo19⟩ := kS_ HO_3.out; subst eo19; have p462 : 0 ≤ (x17_1 : Int) := of_decide_eq_true ‹_›; have q462 : x17_1 < (t453.length : Int) := of_decide_eq_true ‹_›; obtain ⟨ad462, e462, hx462_0⟩ := Kd.at_string (kR_ HO_3.out).2.2 x17_1 p462 q462; cases e462; have hn462_0 : ad462.block ≠ gb461 := k7_ (k6_ HO_3.out BK461.out (by decide)); have hn462_1 : ad462.block ≠ gb461 := k7_ (k6_ HO_3.out BK461.out (by decide)); have hn462_2 : ad462.block ≠ gb461 := k7_ (k6_ HO_3.out BK461.out (by decide)); replace hx462_0 := (cF_ (p := ⟨gb461, 0, none⟩) (by (rw [add_block]; exact hn462_0)) (.int .i64 ((rd_T76 l0_0 x17_1).f0))).trans hx462_0; replace hx462_0 := (cF_ (p := ⟨gb461, 1, none⟩) (by (rw [add_block]; exact hn462_1)) (.int .i64 ((rd_T76 l0_0 x17_1).f1))).trans hx462_0; replace hx462_0 := (cF_ (p := ⟨gb461, 2, none⟩) (by (rw [add_block]; exact hn462_2)) (.bool true)).trans hx462_0; clear hn462_0; clear hn462_1; clear hn462_2; replace p462 := eq_true p462; replace q462 := eq_true q462) | ((with_reducible refine gate_builtin (b := .append) (xs := #[.tmp 24, .tmp 29]) rfl ?_); at_builtin; refine Kd.R_append Kd.string (w0 := w) w.heap.size rfl (.tmp 24) (.tmp 29) 49 9 (.string ⟨#[]⟩) 16 rfl Tryz.underlying49 info9 rfl (by decide) (by omega) u5 x5_1 (rdOf eB_ t453 x17_1) [.string (rdOf eB_ t453 x17_1)] (fun k_ => some k_ ≠ (.slice (some ad462) t453.length co19 : Value).ownBlock) (fun _ => False) rfl (by (go_simp; done)) ?aP (fun _ hk => hk.elim) ?aF ?aO ?aB ?aS ?aL ?_; (case aP => exact rfl); (case aB => exact (by repeat with_reducible first | exact HB.out | apply bA_ | apply bN_ | apply bD_ | refine bS_ ?_ (Aside0.out ‹_›))); (case aF => exact (fun k_ hk => Kd.fresh' (Kd.R_lt (by exact (kM_ (kG_ (kG_ (kG_ (kT_ HO_3.out BK461.out (by decide))))) (fun _ h_ => h_.1)))) k_ hk)); (case aO => exact (by exact kM_ (kG_ (kG_ (kG_ (kT_ HO_5.out BK461.out (by decide))))) (fun _ hk => hk.1))); (case aS => exact (bZ_ (by repeat with_reducible first | exact HB.out | apply bA_ | apply bN_ | apply bD_ | refine bS_ ?_ (Aside0.out ‹_›)))); (case aL => have := LMc15.out; omega); intro v464 w20 ho hb hg hat; rw [← Ny463.out] at ho; have n0_ := aM_ (Kd.R_after (ok := (fun _ => True)) (by exact kM_ (kG_ (kG_ (kG_ (kT_ HO_3.out BK461.out (by decide))))) (fun _ hk => ⟨trivial, hk.1⟩)) hg hat); have n1_ := aM_ (blk_grown (g := gb452) (o := .cells #[.slice (some ad460) l0_0.length c0_0] 36 (0, 0)) (by exact br_ NB452_461.out (br_ NB452_461.out (br_ NB452_461.out (BK452.out)))) hg (k6_ HO_5.out BK452.out (by decide))); have n2_ := aM_ (blk_grown (g := gb461) (o := .cells #[.int .i64 ((rd_T76 l0_0 x17_1).f0), .int .i64 ((rd_T76 l0_0 x17_1).f1), .bool true] 76 (0, 0)) (by refine bP_ (cs := #[.int .i64 ((rd_T76 l0_0 x17_1).f0), .int .i64 ((rd_T76 l0_0 x17_1).f1), .bool false]) ?_ 2 _ rfl; refine bP_ (cs := #[.int .i64 ((rd_T76 l0_0 x17_1).f0), .int .i64 0, .bool false]) ?_ 1 _ rfl; refine bP_ (cs := #[.int .i64 0, .int .i64 0, .bool false]) ?_ 0 _ rfl; exact BK461.out) hg (k6_ HO_5.out BK461.out (by decide))); have n3_ := aM_ (hb); have n4_ := aM_ (ho); clear HO_3; clear BK452; clear BK461; clear HB; clear HO_5; have HO_3 := n0_; have BK452 := n1_; have BK461 := n2_; have HB := n3_; have HO465 := n4_; clear n0_ n1_ n2_ n3_ n4_; clear ho hb hg hat))
   go_roundg k1
   case measure => have := HK1.out; omega
   case rel => exact ⟨(y463), (wrap64 (x17_1 + 1)), (by rfl), H', ⟨by have := HK1.out; omega⟩, ⟨by exact kM_ HO_3.out (fun _ hk => hk.2)⟩, ⟨HO465.out⟩, ⟨BK452.out⟩, ⟨HB.out⟩⟩
end Go.Proofs.YtfhffcefpnkllaaGreatDoor.P
namespace Go.Proofs.YtfhffcefpnkllaaGreatDoor.P
open Go.RowKit Go.Proofs.YtfhffcefpnkllaaGreatDoorW.PrintWords Go.Proofs.YtfhffcefpnkllaaGreatDoorW.PrintLast Go.Proofs.YtfhffcefpnkllaaGreatDoorW.PrintMore
attribute [local go_sem] max2_int min2_int max_two min_two max_three min_three max_four min_four
def idxByS {α : Type} (p : α → Bool) : List α → Nat → Int
 | [], _ => -1
 | x :: r, k => if p x = true then (k : Int) else idxByS p r (k + 1)
theorem idxByS_hit {α : Type} (p : α → Bool) (z : α) : ∀ (xs : List α) (k j : Nat), j < xs.length → p (xs.getD j z) = true → (∀ i, i < j → p (xs.getD i z) = false) → idxByS p xs k = ((k + j : Nat) : Int)
 | [], _, _, h, _, _ => absurd h (by simp)
 | x :: r, k, 0, _, hp, _ => by
  have : p x = true := hp
  simp [idxByS, this]
 | x :: r, k, j + 1, h, hp, hn => by
  have h0 : p x = false := hn 0 (by omega)
  have := idxByS_hit p z r (k + 1) j (by simpa using h) (by simpa using hp) (fun i hi => by simpa using hn (i + 1) (by omega))
  simp only [idxByS, h0, Bool.false_eq_true, if_false, this]
  congr 1; omega
theorem idxByS_miss {α : Type} (p : α → Bool) (z : α) : ∀ (xs : List α) (k : Nat), (∀ i, i < xs.length → p (xs.getD i z) = false) → idxByS p xs k = -1
 | [], _, _ => rfl
 | x :: r, k, hn => by
  have h0 : p x = false := hn 0 (by simp)
  simp only [idxByS, h0, Bool.false_eq_true, if_false]
  exact idxByS_miss p z r (k + 1) (fun i hi => by simpa using hn (i + 1) (by simpa using hi))
theorem idxByS_any {α : Type} (p : α → Bool) : ∀ (xs : List α) (k : Nat), decide (idxByS p xs k ≥ 0) = xs.any p
 | [], _ => rfl
 | x :: r, k => by
  cases h : p x
  ·
   simp [idxByS, h, idxByS_any p r (k + 1)]
  simp [idxByS, h]
def PredBS (P : Program) (g : Nat) (lb : Array Value) {α : Type} (enc : α → Value) (p : α → Bool) (l : List α) (w : World) : Prop :=
 ∀ (W : World) (x : α), x ∈ l → Below w.heap.size w W → Calls P g (#[enc x] ++ lb) W fun e W' => e = .returned (.bool (p x)) ∧ Below W.heap.size W W'
set_option maxHeartbeats 2000000 in
theorem IndexFuncStr.calls_n (p : ByteArray → Bool) (g : Nat) (lb : Array Value) (eg : ∀ args w, (callFunc g args).run Tryz.prog w = .ok (.enter g args) w) (A0 : Option Addr) (n c0 : Nat) (l0 : List ByteArray) (w : World) (hn : Aside0 (l0.length = n))
  (hr0 : Kd.C Kd.string w A0 l0.length l0) (hbig : n ≤ 9223372036854775807) (hp : PredBS Tryz.prog g lb Value.string p l0 w) :
  Calls Tryz.prog 94 #[.slice A0 n c0, .func (.func g) #[] lb] w fun e w' => e = .returned (.int .i64 (idxByS p l0 0)) ∧ Below w.heap.size w w' := by
 have HP := Aside0.mk hp
 have HR := Aside0.mk hr0
 clear hp hr0
 go_enter Tryz.func94, Tryz.ntmps94
 go_wp2
 go_loopg [5, 8] n (fun gg _ s8 wr => ∃ kk : Nat, kk ≤ n ∧ n - kk ≤ gg ∧ s8 = .int .i64 kk ∧ Aside0 (Below w.heap.size w wr) ∧ Aside0 (∀ j, j < kk → p (l0.getD j ByteArray.empty) = false))
 case atStart => exact ⟨0, Nat.zero_le _, by omega, rfl, ⟨Below.refl _ _⟩, ⟨fun j hj => absurd hj (Nat.not_lt_zero _)⟩⟩
 case round =>
  obtain ⟨kk, hkk, hg, rfl, HB, AS⟩ := hrel
  by_cases hlt : kk < n
  rotate_left
  ·
   have hltz : ¬ (kk : Int) < (n : Int) := by omega
   have : kk = n := by omega
   subst this
   go_wp2
   go_ret
   refine ⟨?_, HB.out⟩
   rw [idxByS_miss p ByteArray.empty l0 0 (by rw [hn.out]; exact AS.out)]
   rfl
  have hltz : (kk : Int) < (n : Int) := by omega
  obtain ⟨ad, e0, hx⟩ := Kd.at_string HR.out kk (by omega) (by have := hn.out; omega)
  cases e0
  have hxw := (HB.out.cell (World.block_lt_of_cell? w _ hx)).trans hx
  clear hx
  simp only [Int.toNat_natCast, rdOf] at hxw
  have hmem : l0.getD kk ByteArray.empty ∈ l0 := by
   rw [List.getD_eq_getElem?_getD, List.getElem?_eq_getElem (show kk < l0.length by have := hn.out; omega)]; exact List.getElem_mem _
  generalize hy : l0.getD kk ByteArray.empty = y at hxw hmem
  have BY : Aside0 (l0.getD kk ByteArray.empty = y) := ⟨hy⟩
  clear hy
  have hcall := HP.out wr y hmem HB.out
  clear hmem
  cases hq : p y with
  | true =>
   rw [hq] at hcall
   go_wp2_with fail
   refine hcall.mono ?_
   clear hcall
   rintro e w' ⟨rfl, hb0⟩
   have hb := Aside0.mk hb0
   clear hb0
   go_wp2_with fail
   go_ret
   refine ⟨?_, HB.out.trans (hb.out.mono HB.out.size)⟩
   rw [idxByS_hit p ByteArray.empty l0 0 kk (by have := hn.out; omega) (by rw [BY.out]; exact hq) AS.out]
   simp
  | false =>
   rw [hq] at hcall
   go_wp2_with fail
   refine hcall.mono ?_
   clear hcall
   rintro e w' ⟨rfl, hb0⟩
   have hb := Aside0.mk hb0
   clear hb0
   go_wp2_with fail
   go_roundg (n - (kk + 1))
   case measure => omega
   case rel =>
    refine ⟨kk + 1, by omega, by omega, by go_num, ⟨HB.out.trans (hb.out.mono HB.out.size)⟩, ⟨fun j hj => ?_⟩⟩
    by_cases e : j = kk
    ·
     subst e
     rw [BY.out]; exact hq
    exact AS.out j (by omega)
theorem IndexFuncStr.calls (p : ByteArray → Bool) (g : Nat) (lb : Array Value) (eg : ∀ args w, (callFunc g args).run Tryz.prog w = .ok (.enter g args) w) (A0 : Option Addr) (c0 : Nat) (l0 : List ByteArray) (w : World)
  (hr0 : Kd.C Kd.string w A0 l0.length l0) (hbig : l0.length ≤ 9223372036854775807) (hp : PredBS Tryz.prog g lb Value.string p l0 w) :
  Calls Tryz.prog 94 #[.slice A0 l0.length c0, .func (.func g) #[] lb] w fun e w' => e = .returned (.int .i64 (idxByS p l0 0)) ∧ Below w.heap.size w w' :=
 IndexFuncStr.calls_n p g lb eg A0 l0.length c0 l0 w ⟨rfl⟩ hr0 hbig hp
set_option maxHeartbeats 2000000 in
theorem ContainsFuncStr.calls (p : ByteArray → Bool) (g : Nat) (lb : Array Value) (eg : ∀ args w, (callFunc g args).run Tryz.prog w = .ok (.enter g args) w) (A0 : Option Addr) (c0 : Nat) (l0 : List ByteArray) (w : World)
  (hr0 : Kd.C Kd.string w A0 l0.length l0) (hbig : l0.length ≤ 9223372036854775807) (hp : PredBS Tryz.prog g lb Value.string p l0 w) :
  Calls Tryz.prog 109 #[.slice A0 l0.length c0, .func (.func g) #[] lb] w fun e w' => e = .returned (.bool (l0.any p)) ∧ Below w.heap.size w w' := by
 have HC := Aside0.mk (IndexFuncStr.calls p g lb eg A0 c0 l0 w hr0 hbig hp)
 clear hp hr0
 go_enter Tryz.func109, Tryz.ntmps109
 go_wp2_with (go_at_call 94; refine HC.out.mono ?_; rintro e w' ⟨rfl, hb0⟩; have hb := Aside0.mk hb0; clear hb0)
 go_ret
 exact ⟨by rw [← idxByS_any p l0 0]; rfl, hb.out⟩
def impl_isTrie_any.p (x : ByteArray) : Bool := decide ((x.size : Int) > 12)
def impl_isTrie_any.f (l0 : List ByteArray) : Option Bool := some (l0.any impl_isTrie_any.p)
set_option maxHeartbeats 1000000 in
theorem impl_isTrie_any.lit (l0 : List ByteArray) (w : World) : PredBS Tryz.prog 110 #[] Value.string impl_isTrie_any.p l0 w := by
 intro W x _ _
 show Calls Tryz.prog 110 #[.string x] W _
 go_enter Tryz.func110, Tryz.ntmps110
 go_wp2
 go_ret
 exact ⟨rfl, Below.refl _ _⟩
theorem impl_isTrie_any.calls (A0 : Option Addr) (c0 : Nat) (l0 : List ByteArray) (r : Bool) (w : World) (hr0 : Kd.C Kd.string w A0 l0.length l0) (hc0 : l0.length ≤ c0) (h : impl_isTrie_any.f l0 = some r) :
  Calls Tryz.prog 109 #[.slice A0 l0.length c0, .func (.func 110) #[] #[]] w fun e w' => e = .returned (.bool r) ∧ Below w.heap.size w w' := by
 obtain rfl := Option.some.inj h
 exact ContainsFuncStr.calls impl_isTrie_any.p 110 #[] (Go.Proofs.enters_of Tryz.func110 (by kernel_rfl) rfl) A0 c0 l0 w hr0 hr0.2.1 (impl_isTrie_any.lit l0 w)
end Go.Proofs.YtfhffcefpnkllaaGreatDoor.P
namespace Go.Proofs.YtfhffcefpnkllaaGreatDoor.P
open Go.RowKit Go.Proofs.YtfhffcefpnkllaaGreatDoorW.PrintWords Go.Proofs.YtfhffcefpnkllaaGreatDoorW.PrintLast Go.Proofs.YtfhffcefpnkllaaGreatDoorW.PrintMore
open Go.Proofs.YtfhffcefpnkllaaGreatDoorW.PrintWords renaming blk_frozen → bF_, blk_cell → bC_, below_set → bS_, blk_below → bB_, below_step → bT_, pw_below_drewN → bN_, below_size → bZ_, below_drew1 → bD_, below_alloc → bA_, blk_far → bR_, gate_callee → gC_, gate_dst → gD_, box_event → bE_, blk_drew → b1_, blk_put → bP_, blk_drewN → b2_, blk_alloc → b3_, blk_lt → bL_, cell_far → cF_
open Go.Proofs.YtfhffcefpnkllaaGreatDoorW.PrintLast renaming any_of → aO_, i64_w → i6_, i32_w → i3_, take_ofW → tW_
open Go.Proofs.YtfhffcefpnkllaaGreatDoorW.PrintWords.Kd renaming R_below → kB_, R_mono → kM_, R_far → kF_, R_reads' → kR_, R_types → kT_, R_slice → kS_, R_celln → kC_, R_alloc → k1_, R_drewN → k2_, R_drew → k3_, C_below → k4_, R_lower → k5_, R_ne → k6_, own_blk → k7_
open Go.Proofs.YtfhffcefpnkllaaGreatDoorW.PrintWords.LeO renaming none → l0_, bind → l1_, ite → l2_, refl → l3_
open World renaming block_lt_of_cell? → wB_
open _root_.Option renaming bind_eq_some_iff → oB_
open _root_.ByteArray renaming empty → eB_
open List renaming setIfInBounds_toArray → sA_, set_cons_zero → sB_, set_cons_succ → sC_, map_toArray → sD_, map_cons → sE_, map_nil → sF_, length_drop → sG_, length_take → sH_
open Bool renaming true → ty, false → fy
open Aside0 renaming mk → aM_
attribute [local go_sem] max2_int min2_int max_two min_two max_three min_three max_four min_four
def slices_IsSorted_string_string.l0 : Nat → List ByteArray → Int → Option (Bool)
 | 0, _, _ => none
 | k + 1, x0, x3 => if x3 > 0 then (if 0 ≤ x3 then (if x3 < (x0.length : Int) then (if 0 ≤ (wrap64 (x3 - 1)) then (if (wrap64 (x3 - 1)) < (x0.length : Int) then ((cmp_Less_string.f (rdOf eB_ x0 x3) (rdOf eB_ x0 (wrap64 (x3 - 1)))).bind fun t691 => (if t691 = true then (some false) else (slices_IsSorted_string_string.l0 k x0 (wrap64 (x3 - 1))))) else (none)) else (none)) else (none)) else (none)) else (some true)
def slices_IsSorted_string_string.f (k : Nat) (l0 : List ByteArray) : Option (Bool) := slices_IsSorted_string_string.l0 k l0 (wrap64 ((l0.length : Int) - 1))
theorem slices_IsSorted_string_string.mono_l : ∀ k, (∀ y0 y1, LeO (slices_IsSorted_string_string.l0 k y0 y1) (slices_IsSorted_string_string.l0 (k + 1) y0 y1))
 | 0 => fun _ _ r h => by simp [slices_IsSorted_string_string.l0] at h
 | k + 1 => by
  have ih0 := slices_IsSorted_string_string.mono_l k
  intro y0 y1
  unfold slices_IsSorted_string_string.l0
  repeat' with_reducible first | exact ih0 _ _ | exact l3_ _ | exact l0_ _ | refine l2_ ?_ ?_ | refine l1_ ?_ (fun _ => ?_)
theorem slices_IsSorted_string_string.mono : ∀ a0 k, LeO (slices_IsSorted_string_string.f k a0) (slices_IsSorted_string_string.f (k + 1) a0) := by
 intro a0 k
 have ih0 := slices_IsSorted_string_string.mono_l k
 unfold slices_IsSorted_string_string.f
 repeat' with_reducible first | exact ih0 _ _ | exact l3_ _ | exact l0_ _ | refine l2_ ?_ ?_ | refine l1_ ?_ (fun _ => ?_)
theorem slices_IsSorted_string_string.calls (k : Nat) (A0 : Option Addr) (c0 : Nat) (l0 : List ByteArray) (r : Bool) (w : World) (hr0 : Kd.C Kd.string w A0 l0.length l0) (hc0 : l0.length ≤ c0) (h : slices_IsSorted_string_string.f k l0 = some r) :
  Calls Tryz.prog 111 #[.slice A0 l0.length c0] w fun e w' => e = .returned (.bool r) ∧ Drawn0 w w' := by
 have HR0 := aM_ hr0
 have HC0 := aM_ hc0
 clear hr0 hc0
 have H : (slices_IsSorted_string_string.l0 k l0 (wrap64 ((l0.length : Int) - 1))) = some r := h
 clear h
 have H' := aM_ H
 clear H
 go_enter Tryz.func111, Tryz.ntmps111
 go_wp2
 repeat (go_quiet (fail); try go_wp2)
 go_loopg [3] k (fun kq v3 w' => ∃ (x3_1 : Int), v3 = .int .i64 x3_1 ∧ Aside0 (slices_IsSorted_string_string.l0 kq l0 x3_1 = some r) ∧ Aside0 (kq ≤ k) ∧ Drawn0 w w')
 case atStart => exact ⟨(wrap64 ((l0.length : Int) - 1)), (by rfl), H', ⟨Nat.le_refl _⟩, by repeat (first | exact Drawn0.refl _ | apply Drawn0.step)⟩
 case round =>
  clear H'
  obtain ⟨x3_1, rfl, HA, HK1, ⟨m1, rfl⟩⟩ := hrel
  cases gk with
  | zero => exact absurd HA.out (by simp [slices_IsSorted_string_string.l0])
  | succ k1 =>
   have H := HA.out
   clear HA
   simp only [slices_IsSorted_string_string.l0] at H
   by_cases c2 : x3_1 > 0
   rotate_left
   ·
    rw [if_neg c2] at H
    have c2b0 := decide_eq_false c2
    clear c2
    obtain rfl := Option.some.inj H
    go_wp2
    repeat (go_quiet (fail); try go_wp2)
    go_ret
    exact ⟨by rfl, by repeat (first | exact Drawn0.refl _ | apply Drawn0.step)⟩
   rw [if_pos c2] at H
   have c2b0 := decide_eq_true c2
   clear c2
   by_cases c3 : 0 ≤ x3_1
   rotate_left
   ·
    rw [if_neg c3] at H
    exact absurd H (by simp)
   rw [if_pos c3] at H
   have c3b0 := decide_eq_true c3
   clear c3
   by_cases c4 : x3_1 < (l0.length : Int)
   rotate_left
   ·
    rw [if_neg c4] at H
    exact absurd H (by simp)
   rw [if_pos c4] at H
   have c4b0 := decide_eq_true c4
   clear c4
   obtain ⟨ji5, hji5⟩ : ∃ j_ : Int, (wrap64 (x3_1 - 1)) = j_ := ⟨_, rfl⟩
   replace H : (if 0 ≤ (ji5) then (if (ji5) < (l0.length : Int) then ((cmp_Less_string.f (rdOf eB_ l0 x3_1) (rdOf eB_ l0 (ji5))).bind fun t691 => (if t691 = true then (some false) else (slices_IsSorted_string_string.l0 k1 l0 ji5))) else (none)) else (none)) = some r := by first | (rw [hji5] at H; exact H) | (simp only [hji5] at H ⊢; exact H)
   have hji5w : (IntKind.i64.wrap (x3_1 - 1)) = ji5 := (i6_ _).trans hji5
   by_cases c6 : 0 ≤ (ji5)
   rotate_left
   ·
    rw [if_neg c6] at H
    exact absurd H (by simp)
   rw [if_pos c6] at H
   have c6b0 := decide_eq_true c6
   clear c6
   by_cases c7 : (ji5) < (l0.length : Int)
   rotate_left
   ·
    rw [if_neg c7] at H
    exact absurd H (by simp)
   rw [if_pos c7] at H
   have c7b0 := decide_eq_true c7
   clear c7
   replace H := oB_.mp H
   obtain ⟨t691, A80, H⟩ := H
   try dsimp only at H
   have A8 := aM_ A80
   clear A80
   by_cases c9 : t691 = true
   ·
    subst c9
    rw [if_pos rfl] at H
    obtain rfl := Option.some.inj H
    have p689 : 0 ≤ (x3_1 : Int) := of_decide_eq_true ‹_›
    have q689 : x3_1 < (l0.length : Int) := of_decide_eq_true ‹_›
    obtain ⟨ad689, e689, hx689_0⟩ := Kd.at_string HR0.out x3_1 p689 q689
    cases e689
    replace p689 := eq_true p689
    replace q689 := eq_true q689
    have p690 : 0 ≤ ((ji5) : Int) := of_decide_eq_true ‹_›
    have q690 : (ji5) < (l0.length : Int) := of_decide_eq_true ‹_›
    obtain ⟨ad690, e690, hx690_0⟩ := Kd.at_string HR0.out (ji5) p690 q690
    obtain rfl : ad689 = ad690 := (by injection e690)
    replace p690 := eq_true p690
    replace q690 := eq_true q690
    go_wp2_with (first | (go_at_call 113; (with_reducible refine (cmp_Less_string.calls (rdOf eB_ l0 x3_1) (rdOf eB_ l0 (ji5)) true _ A8.out).mono ?_); rintro e w' ⟨rfl, ⟨nd, rfl⟩⟩; (try first | exact ⟨rfl, _, World.drewN_drewN _ _ _⟩ | exact ⟨rfl, _, Eq.trans (World.drewN_drewN _ _ _) (congrArg (World.drewN _) (Nat.add_assoc _ _ _))⟩)))
    repeat (go_quiet (first | (go_at_call 113; (with_reducible refine (cmp_Less_string.calls (rdOf eB_ l0 x3_1) (rdOf eB_ l0 (ji5)) true _ A8.out).mono ?_); rintro e w' ⟨rfl, ⟨nd, rfl⟩⟩; (try exact ⟨rfl, _, Eq.trans (World.drewN_drewN _ _ _) (congrArg (World.drewN _) (Nat.add_assoc _ _ _))⟩))); try go_wp2_with (first | (go_at_call 113; (with_reducible refine (cmp_Less_string.calls (rdOf eB_ l0 x3_1) (rdOf eB_ l0 (ji5)) true _ A8.out).mono ?_); rintro e w' ⟨rfl, ⟨nd, rfl⟩⟩; (try first | exact ⟨rfl, _, World.drewN_drewN _ _ _⟩ | exact ⟨rfl, _, Eq.trans (World.drewN_drewN _ _ _) (congrArg (World.drewN _) (Nat.add_assoc _ _ _))⟩))))
    go_ret
    exact ⟨by rfl, by repeat (first | exact Drawn0.refl _ | apply Drawn0.step)⟩
   replace c9 := Bool.eq_false_iff.mpr c9
   subst c9
   replace H : (slices_IsSorted_string_string.l0 k1 l0 ji5) = some r := by rw [if_neg (show ¬ (false = true) by decide)] at H; exact H
   have H' := aM_ H
   clear H
   have p689 : 0 ≤ (x3_1 : Int) := of_decide_eq_true ‹_›
   have q689 : x3_1 < (l0.length : Int) := of_decide_eq_true ‹_›
   obtain ⟨ad689, e689, hx689_0⟩ := Kd.at_string HR0.out x3_1 p689 q689
   cases e689
   replace p689 := eq_true p689
   replace q689 := eq_true q689
   have p690 : 0 ≤ ((ji5) : Int) := of_decide_eq_true ‹_›
   have q690 : (ji5) < (l0.length : Int) := of_decide_eq_true ‹_›
   obtain ⟨ad690, e690, hx690_0⟩ := Kd.at_string HR0.out (ji5) p690 q690
   obtain rfl : ad689 = ad690 := (by injection e690)
   replace p690 := eq_true p690
   replace q690 := eq_true q690
   go_wp2_with (first | (go_at_call 113; (with_reducible refine (cmp_Less_string.calls (rdOf eB_ l0 x3_1) (rdOf eB_ l0 (ji5)) false _ A8.out).mono ?_); rintro e w' ⟨rfl, ⟨nd, rfl⟩⟩; (try first | exact ⟨rfl, _, World.drewN_drewN _ _ _⟩ | exact ⟨rfl, _, Eq.trans (World.drewN_drewN _ _ _) (congrArg (World.drewN _) (Nat.add_assoc _ _ _))⟩)))
   repeat (go_quiet (first | (go_at_call 113; (with_reducible refine (cmp_Less_string.calls (rdOf eB_ l0 x3_1) (rdOf eB_ l0 (ji5)) false _ A8.out).mono ?_); rintro e w' ⟨rfl, ⟨nd, rfl⟩⟩; (try exact ⟨rfl, _, Eq.trans (World.drewN_drewN _ _ _) (congrArg (World.drewN _) (Nat.add_assoc _ _ _))⟩))); try go_wp2_with (first | (go_at_call 113; (with_reducible refine (cmp_Less_string.calls (rdOf eB_ l0 x3_1) (rdOf eB_ l0 (ji5)) false _ A8.out).mono ?_); rintro e w' ⟨rfl, ⟨nd, rfl⟩⟩; (try first | exact ⟨rfl, _, World.drewN_drewN _ _ _⟩ | exact ⟨rfl, _, Eq.trans (World.drewN_drewN _ _ _) (congrArg (World.drewN _) (Nat.add_assoc _ _ _))⟩))))
   go_roundg k1
   case measure => have := HK1.out; omega
   case rel => exact ⟨(ji5), (by rfl), H', ⟨by have := HK1.out; omega⟩, by repeat (first | exact Drawn0.refl _ | apply Drawn0.step)⟩
end Go.Proofs.YtfhffcefpnkllaaGreatDoor.P
namespace Go.Proofs.YtfhffcefpnkllaaGreatDoor.P
open Go.RowKit Go.Proofs.YtfhffcefpnkllaaGreatDoorW.PrintWords Go.Proofs.YtfhffcefpnkllaaGreatDoorW.PrintLast Go.Proofs.YtfhffcefpnkllaaGreatDoorW.PrintMore
open Go.Proofs.YtfhffcefpnkllaaGreatDoorW.PrintWords renaming blk_frozen → bF_, blk_cell → bC_, below_set → bS_, blk_below → bB_, below_step → bT_, pw_below_drewN → bN_, below_size → bZ_, below_drew1 → bD_, below_alloc → bA_, blk_far → bR_, gate_callee → gC_, gate_dst → gD_, box_event → bE_, blk_drew → b1_, blk_put → bP_, blk_drewN → b2_, blk_alloc → b3_, blk_lt → bL_, cell_far → cF_
open Go.Proofs.YtfhffcefpnkllaaGreatDoorW.PrintLast renaming any_of → aO_, i64_w → i6_, i32_w → i3_, take_ofW → tW_
open Go.Proofs.YtfhffcefpnkllaaGreatDoorW.PrintWords.Kd renaming R_below → kB_, R_mono → kM_, R_far → kF_, R_reads' → kR_, R_types → kT_, R_slice → kS_, R_celln → kC_, R_alloc → k1_, R_drewN → k2_, R_drew → k3_, C_below → k4_, R_lower → k5_, R_ne → k6_, own_blk → k7_
open Go.Proofs.YtfhffcefpnkllaaGreatDoorW.PrintWords.LeO renaming none → l0_, bind → l1_, ite → l2_, refl → l3_
open World renaming block_lt_of_cell? → wB_
open _root_.Option renaming bind_eq_some_iff → oB_
open _root_.ByteArray renaming empty → eB_
open List renaming setIfInBounds_toArray → sA_, set_cons_zero → sB_, set_cons_succ → sC_, map_toArray → sD_, map_cons → sE_, map_nil → sF_, length_drop → sG_, length_take → sH_
open Bool renaming true → ty, false → fy
open Aside0 renaming mk → aM_
attribute [local go_sem] max2_int min2_int max_two min_two max_three min_three max_four min_four
attribute [local go_sem high] eqA76
def impl_Node.l0 : Nat → List (S76) → List (S76) → Int → Int → Option (Bool)
 | 0, _, _, _, _ => none
 | k + 1, x0, x1, x12, x13 => if x13 < x12 then (if 0 ≤ x13 then (if x13 < (x0.length : Int) then (if x13 < (x1.length : Int) then (if (!(((rd_T76 x0 x13).f0) == ((rd_T76 x1 x13).f0)) || (!(((rd_T76 x0 x13).f1) == ((rd_T76 x1 x13).f1)) || (!(((rd_T76 x0 x13).f2) == ((rd_T76 x1 x13).f2))))) = true then (some false) else (impl_Node.l0 k x0 x1 x12 (wrap64 (x13 + 1)))) else (none)) else (none)) else (none)) else (some true)
def impl_Node.f (k : Nat) (l0 : List (S76)) (l1 : List (S76)) : Option (Bool) := if (l0.length : Int) = (l1.length : Int) then (impl_Node.l0 k l0 l1 (l0.length : Int) 0) else (some false)
theorem impl_Node.mono_l : ∀ k, (∀ y0 y1 y2 y3, LeO (impl_Node.l0 k y0 y1 y2 y3) (impl_Node.l0 (k + 1) y0 y1 y2 y3))
 | 0 => fun _ _ _ _ r h => by simp [impl_Node.l0] at h
 | k + 1 => by
  have ih0 := impl_Node.mono_l k
  intro y0 y1 y2 y3
  unfold impl_Node.l0
  repeat' with_reducible first | exact ih0 _ _ _ _ | exact l3_ _ | exact l0_ _ | refine l2_ ?_ ?_ | refine l1_ ?_ (fun _ => ?_)
theorem impl_Node.mono : ∀ a0 a1 k, LeO (impl_Node.f k a0 a1) (impl_Node.f (k + 1) a0 a1) := by
 intro a0 a1 k
 have ih0 := impl_Node.mono_l k
 unfold impl_Node.f
 repeat' with_reducible first | exact ih0 _ _ _ _ | exact l3_ _ | exact l0_ _ | refine l2_ ?_ ?_ | refine l1_ ?_ (fun _ => ?_)
theorem impl_Node.calls (k : Nat) (A0 : Option Addr) (c0 : Nat) (l0 : List (S76)) (A1 : Option Addr) (c1 : Nat) (l1 : List (S76)) (r : Bool) (w : World) (hr0 : Kd.C k76 w A0 l0.length l0) (hc0 : l0.length ≤ c0) (hr1 : Kd.C k76 w A1 l1.length l1) (hc1 : l1.length ≤ c1) (h : impl_Node.f k l0 l1 = some r) :
  Calls Tryz.prog 112 #[.slice A0 l0.length c0, .slice A1 l1.length c1] w fun e w' => e = .returned (.bool r) ∧ Drawn0 w w' := by
 have hu76 := Tryz.underlying76
 have HR0 := aM_ hr0
 have HC0 := aM_ hc0
 clear hr0 hc0
 have HR1 := aM_ hr1
 have HC1 := aM_ hc1
 clear hr1 hc1
 have H : (if (l0.length : Int) = (l1.length : Int) then (impl_Node.l0 k l0 l1 (l0.length : Int) 0) else (some false)) = some r := h
 clear h
 by_cases c3 : (l0.length : Int) = (l1.length : Int)
 rotate_left
 ·
  rw [if_neg c3] at H
  have c3b0 : ((l0.length : Int) == (l1.length : Int)) = false := beq_eq_false_iff_ne.mpr c3
  have c3b1 : ((l0.length : Int) != (l1.length : Int)) = true := bne_iff_ne.mpr c3
  have c3b2 : (l0.length == l1.length) = false := by first | simpa using c3 | (simp at c3 ⊢; omega)
  obtain rfl := Option.some.inj H
  go_enter Tryz.func112, Tryz.ntmps112
  go_wp2
  repeat (go_quiet (fail); try go_wp2)
  go_ret
  exact ⟨by rfl, by repeat (first | exact Drawn0.refl _ | apply Drawn0.step)⟩
 rw [if_pos c3] at H
 have c3b0 : ((l0.length : Int) == (l1.length : Int)) = true := beq_iff_eq.mpr c3
 have c3b1 : ((l0.length : Int) != (l1.length : Int)) = false := bne_eq_false_iff_eq.mpr c3
 have c3b2 : (l0.length == l1.length) = true := by first | simpa using c3 | (simp at c3 ⊢; omega)
 clear c3
 have H' := aM_ H
 clear H
 go_enter Tryz.func112, Tryz.ntmps112
 go_wp2
 repeat (go_quiet (fail); try go_wp2)
 go_loopg [13] k (fun kq v13 w' => ∃ (x13_1 : Int), v13 = .int .i64 x13_1 ∧ Aside0 (impl_Node.l0 kq l0 l1 (l0.length : Int) x13_1 = some r) ∧ Aside0 (kq ≤ k) ∧ Drawn0 w w')
 case atStart => exact ⟨(0), (by rfl), H', ⟨Nat.le_refl _⟩, by repeat (first | exact Drawn0.refl _ | apply Drawn0.step)⟩
 case round =>
  clear H'
  try clear p2
  try clear c3b0
  try clear c3b1
  try clear c3b2
  obtain ⟨x13_1, rfl, HA, HK1, ⟨m1, rfl⟩⟩ := hrel
  cases gk with
  | zero => exact absurd HA.out (by simp [impl_Node.l0])
  | succ k1 =>
   have H := HA.out
   clear HA
   simp only [impl_Node.l0] at H
   by_cases c4 : x13_1 < (l0.length : Int)
   rotate_left
   ·
    rw [if_neg c4] at H
    have c4b0 := decide_eq_false c4
    clear c4
    obtain rfl := Option.some.inj H
    go_wp2
    repeat (go_quiet (fail); try go_wp2)
    go_ret
    exact ⟨by rfl, by repeat (first | exact Drawn0.refl _ | apply Drawn0.step)⟩
   rw [if_pos c4] at H
   have c4b0 := decide_eq_true c4
   clear c4
   by_cases c5 : 0 ≤ x13_1
   rotate_left
   ·
    rw [if_neg c5] at H
    exact absurd H (by simp)
   rw [if_pos c5] at H
   have c5b0 := decide_eq_true c5
   clear c5
   by_cases c6 : x13_1 < (l0.length : Int)
   rotate_left
   ·
    rw [if_neg c6] at H
    exact absurd H (by simp)
   rw [if_pos c6] at H
   have c6b0 := decide_eq_true c6
   clear c6
   by_cases c7 : x13_1 < (l1.length : Int)
   rotate_left
   ·
    rw [if_neg c7] at H
    exact absurd H (by simp)
   rw [if_pos c7] at H
   have c7b0 := decide_eq_true c7
   clear c7
   by_cases c8 : (!(((rd_T76 l0 x13_1).f0) == ((rd_T76 l1 x13_1).f0)) || (!(((rd_T76 l0 x13_1).f1) == ((rd_T76 l1 x13_1).f1)) || (!(((rd_T76 l0 x13_1).f2) == ((rd_T76 l1 x13_1).f2))))) = true
   ·
    rw [if_pos c8] at H
    have c8b0 : (!(((rd_T76 l0 x13_1).f0) == ((rd_T76 l1 x13_1).f0)) || (!(((rd_T76 l0 x13_1).f1) == ((rd_T76 l1 x13_1).f1)) || (!(((rd_T76 l0 x13_1).f2) == ((rd_T76 l1 x13_1).f2))))) = true := c8
    clear c8
    obtain rfl := Option.some.inj H
    have p692 : 0 ≤ (x13_1 : Int) := of_decide_eq_true ‹_›
    have q692 : x13_1 < (l0.length : Int) := of_decide_eq_true ‹_›
    obtain ⟨ad692, e692, hx692_0, hx692_1, hx692_2⟩ := at_T76 HR0.out x13_1 p692 q692
    cases e692
    replace p692 := eq_true p692
    replace q692 := eq_true q692
    have p693 : 0 ≤ (x13_1 : Int) := of_decide_eq_true ‹_›
    have q693 : x13_1 < (l1.length : Int) := of_decide_eq_true ‹_›
    obtain ⟨ad693, e693, hx693_0, hx693_1, hx693_2⟩ := at_T76 HR1.out x13_1 p693 q693
    cases e693
    replace p693 := eq_true p693
    replace q693 := eq_true q693
    go_wp2
    repeat (go_quiet (fail); try go_wp2)
    go_ret
    exact ⟨by rfl, by repeat (first | exact Drawn0.refl _ | apply Drawn0.step)⟩
   rw [if_neg c8] at H
   have c8b0 : (!(((rd_T76 l0 x13_1).f0) == ((rd_T76 l1 x13_1).f0)) || (!(((rd_T76 l0 x13_1).f1) == ((rd_T76 l1 x13_1).f1)) || (!(((rd_T76 l0 x13_1).f2) == ((rd_T76 l1 x13_1).f2))))) = false := by simpa using c8
   clear c8
   have H' := aM_ H
   clear H
   have p692 : 0 ≤ (x13_1 : Int) := of_decide_eq_true ‹_›
   have q692 : x13_1 < (l0.length : Int) := of_decide_eq_true ‹_›
   obtain ⟨ad692, e692, hx692_0, hx692_1, hx692_2⟩ := at_T76 HR0.out x13_1 p692 q692
   cases e692
   replace p692 := eq_true p692
   replace q692 := eq_true q692
   have p693 : 0 ≤ (x13_1 : Int) := of_decide_eq_true ‹_›
   have q693 : x13_1 < (l1.length : Int) := of_decide_eq_true ‹_›
   obtain ⟨ad693, e693, hx693_0, hx693_1, hx693_2⟩ := at_T76 HR1.out x13_1 p693 q693
   cases e693
   replace p693 := eq_true p693
   replace q693 := eq_true q693
   go_wp2
   repeat (go_quiet (fail); try go_wp2)
   go_roundg k1
   case measure => have := HK1.out; omega
   case rel => exact ⟨(wrap64 (x13_1 + 1)), (by rfl), H', ⟨by have := HK1.out; omega⟩, by repeat (first | exact Drawn0.refl _ | apply Drawn0.step)⟩
end Go.Proofs.YtfhffcefpnkllaaGreatDoor.P
namespace Go.Proofs.YtfhffcefpnkllaaGreatDoor.P
open Go.RowKit Go.Proofs.YtfhffcefpnkllaaGreatDoorW.PrintWords Go.Proofs.YtfhffcefpnkllaaGreatDoorW.PrintLast Go.Proofs.YtfhffcefpnkllaaGreatDoorW.PrintMore
open Go.Proofs.YtfhffcefpnkllaaGreatDoorW.PrintWords renaming blk_frozen → bF_, blk_cell → bC_, below_set → bS_, blk_below → bB_, below_step → bT_, pw_below_drewN → bN_, below_size → bZ_, below_drew1 → bD_, below_alloc → bA_, blk_far → bR_, gate_callee → gC_, gate_dst → gD_, box_event → bE_, blk_drew → b1_, blk_put → bP_, blk_drewN → b2_, blk_alloc → b3_, blk_lt → bL_, cell_far → cF_
open Go.Proofs.YtfhffcefpnkllaaGreatDoorW.PrintLast renaming any_of → aO_, i64_w → i6_, i32_w → i3_, take_ofW → tW_
open Go.Proofs.YtfhffcefpnkllaaGreatDoorW.PrintWords.Kd renaming R_below → kB_, R_mono → kM_, R_far → kF_, R_reads' → kR_, R_types → kT_, R_slice → kS_, R_celln → kC_, R_alloc → k1_, R_drewN → k2_, R_drew → k3_, C_below → k4_, R_lower → k5_, R_ne → k6_, own_blk → k7_
open Go.Proofs.YtfhffcefpnkllaaGreatDoorW.PrintWords.LeO renaming none → l0_, bind → l1_, ite → l2_, refl → l3_
open World renaming block_lt_of_cell? → wB_
open _root_.Option renaming bind_eq_some_iff → oB_
open _root_.ByteArray renaming empty → eB_
open List renaming setIfInBounds_toArray → sA_, set_cons_zero → sB_, set_cons_succ → sC_, map_toArray → sD_, map_cons → sE_, map_nil → sF_, length_drop → sG_, length_take → sH_
open Bool renaming true → ty, false → fy
open Aside0 renaming mk → aM_
attribute [local go_sem] max2_int min2_int max_two min_two max_three min_three max_four min_four
def impl_isTrie.j0 : Nat → Bool → List (S76) → Option (Bool)
 | 0, _, _ => none
 | k + 1, x16, x695000 => if x16 = true then (some false) else ((impl_Trie_words.f k x695000).bind fun t700 => (if (t700.length : Int) ≤ 40 then ((slices_IsSorted_string_string.f k t700).bind fun t703 => (if t703 = true then ((impl_trieOf.f k t700).bind fun t704 => ((impl_Node.f k t704 x695000).bind fun t707 => (some t707))) else (some false))) else (some false)))
def impl_isTrie.f (k : Nat) (l0_0 : List (S76)) : Option (Bool) := (impl_Trie_prefixes.f k l0_0).bind fun bt695 => (if bt695.2 = true then ((impl_isTrie_any.f bt695.1).bind fun t699 => (impl_isTrie.j0 k t699 l0_0)) else (impl_isTrie.j0 k true l0_0))
theorem impl_isTrie.mono_l : ∀ k, (∀ y0 y1, LeO (impl_isTrie.j0 k y0 y1) (impl_isTrie.j0 (k + 1) y0 y1))
 | 0 => fun _ _ r h => by simp [impl_isTrie.j0] at h
 | k + 1 => by
  have ih0 := impl_isTrie.mono_l k
  intro y0 y1
  unfold impl_isTrie.j0
  repeat' with_reducible first | exact ih0 _ _ | exact impl_Node.mono _ _ _ | exact impl_Trie_prefixes.mono _ _ | exact impl_Trie_words.mono _ _ | exact impl_trieOf.mono _ _ | exact slices_IsSorted_string_string.mono _ _ | exact l3_ _ | exact l0_ _ | refine l2_ ?_ ?_ | refine l1_ ?_ (fun _ => ?_)
theorem impl_isTrie.mono : ∀ a0 k, LeO (impl_isTrie.f k a0) (impl_isTrie.f (k + 1) a0) := by
 intro a0 k
 have ih0 := impl_isTrie.mono_l k
 unfold impl_isTrie.f
 repeat' with_reducible first | exact ih0 _ _ | exact impl_Node.mono _ _ _ | exact impl_Trie_prefixes.mono _ _ | exact impl_Trie_words.mono _ _ | exact impl_trieOf.mono _ _ | exact slices_IsSorted_string_string.mono _ _ | exact l3_ _ | exact l0_ _ | refine l2_ ?_ ?_ | refine l1_ ?_ (fun _ => ?_)
def impl_isTrie.T5 : Bool × List (List Nat × List Nat) := (true, [([], []), ([0], [0]), ([1], [1]), ([2], [2]), ([3], [3]), ([4, 3, 3], [3, 4]), ([3, 5], [3, 5]), ([6, 5], [6]), ([7], [7]), ([8, 7, 7], [7, 8]), ([9, 7], [7, 9]), ([7], [7]), ([11, 7], [7, 11]), ([10, 12, 9, 7], [7, 10, 12]), ([7, 13], [7, 13]), ([14, 13, 0, 1, 2, 3, 4, 5, 6, 7, 8, 9, 10, 11, 12, 13, 14], [14])])
def impl_isTrie.B5 : List Nat := [0, 1, 3, 7, 15, 31, 63, 127, 255, 511, 1023, 255, 2303, 8191, 16383, 32767]
theorem impl_isTrie.tab5 : rtab .any (opsOf Tryz.f92 5) = impl_isTrie.T5 := by kernel_rfl
theorem impl_isTrie.bits5 : waitsOk impl_isTrie.T5.2 impl_isTrie.B5 = true := by kernel_rfl
theorem impl_isTrie.calls (k : Nat) (A0_0 : Option Addr) (c0_0 : Nat) (l0_0 : List (S76)) (r : Bool) (w : World) (hr0_0 : Kd.C k76 w A0_0 l0_0.length l0_0) (hc0_0 : l0_0.length ≤ c0_0) (h : impl_isTrie.f k l0_0 = some r) :
  Calls Tryz.prog 92 #[.agg #[.slice A0_0 l0_0.length c0_0]] w fun e w' => e = .returned (.bool r) ∧ Below w.heap.size w w' := by
 have hu36 := Tryz.underlying36
 have hfd : ∀ (a_ : Option Addr) (n_ c_ : Nat) (W_ : World), (Instr.field 36 (.agg #[.slice a_ n_ c_]) 0).run Tryz.prog W_ = .ok (.slice a_ n_ c_) W_ := fun a_ n_ c_ W_ => by first | rfl | kernel_rfl
 have HR0_0 := aM_ hr0_0
 have HC0_0 := aM_ hc0_0
 clear hr0_0 hc0_0
 have HB := aM_ (Below.refl w.heap.size w)
 have H : ((impl_Trie_prefixes.f k l0_0).bind fun bt695 => (if bt695.2 = true then ((impl_isTrie_any.f bt695.1).bind fun t699 => (impl_isTrie.j0 k t699 l0_0)) else (impl_isTrie.j0 k true l0_0))) = some r := h
 clear h
 replace H := oB_.mp H
 obtain ⟨⟨t695, t698⟩, A20, H⟩ := H
 try dsimp only at H
 have A2 := aM_ A20
 clear A20
 have HC3 := aM_ H
 clear H
 go_enter Tryz.func92, Tryz.ntmps92
 go_upto_region 2 with (first | (refine bx_ 1 #[.slice A0_0 l0_0.length c0_0] 36 (by with_reducible rfl) rfl (by go_simp; done) ?_; intro gb694 hg w4 hbox hb; have BK694 := aM_ (hbox); have GW694 := gw_ hg HB; replace HB := b4_ HB hb; clear hb hbox hg; have hcz5_0 := c0_ BK694; have hfz5_0 := bF_ BK694.out 0) | ((with_reducible refine gC_ (f := 83) rfl ?_); refine goesL_ (some 8) rfl rfl Tryz.func83 (by kernel_rfl) rfl #[.agg #[.slice A0_0 l0_0.length c0_0]] rfl (by (try simp only [sD_, sE_, sF_]); rfl) ?_; (with_reducible refine (impl_Trie_prefixes.calls k _ _ l0_0 t695 t698 _ ?side1 HC0_0.out A2.out).mono ?_); (case side1 => repeat (first | exact (k4_ HR0_0.out HB.out) | with_reducible first | apply Kd.C_alloc | apply Kd.C_drewN | apply Kd.C_drew)); rintro e w6 ⟨v696, rfl, ho0, hb⟩; refine ⟨_, rfl, ?_⟩; have HO697 := aM_ (k5_ ho0 (bZ_ HB.out)); replace BK694 := b5_ BK694 hb; replace HB := b4_ HB hb; (try clear hb); (try clear ho0)))
 (try simp only [Act.put, sA_, sB_, sC_])
 go_cut [16] (fun v16 wc => ∃ (kq : Nat) (x16_2 : Bool), v16 = .bool x16_2 ∧ Aside0 (impl_isTrie.j0 kq x16_2 l0_0 = some r) ∧ Aside0 (kq ≤ k) ∧ Aside0 (wc.heap[gb694]? = some (.cells #[(.slice A0_0 l0_0.length c0_0)] 36 (0, 0))) ∧ Aside0 (Below w.heap.size w wc))
 case first =>
  have H := HC3.out
  clear HC3
  by_cases c7 : t698 = true
  ·
   subst c7
   rw [if_pos rfl] at H
   replace H := oB_.mp H
   obtain ⟨t699, A80, H⟩ := H
   try dsimp only at H
   have A8 := aM_ A80
   clear A80
   have H' := aM_ H
   clear H
   obtain ⟨Ao9, co9, eo9⟩ := kS_ HO697.out
   subst eo9
   go_wp2_with (first | (go_at_call 109; (with_reducible refine (impl_isTrie_any.calls _ _ t695 t699 _ ?side1 ?side2 A8.out).mono ?_); (case side1 => repeat (first | exact (kR_ HO697.out).2.2 | with_reducible first | apply Kd.C_alloc | apply Kd.C_drewN | apply Kd.C_drew)); (case side2 => exact (kR_ HO697.out).2.1); rintro e w10 ⟨rfl, hb⟩; replace HO697 := k9_ HO697 hb; replace BK694 := b5_ BK694 hb; replace HB := b4_ HB hb; (try clear hb)))
   go_meet
   case rel => exact ⟨_, (t699), (by rfl), H', ⟨by omega⟩, ⟨BK694.out⟩, ⟨HB.out⟩⟩
  replace c7 := Bool.eq_false_iff.mpr c7
  subst c7
  replace H : (impl_isTrie.j0 k true l0_0) = some r := by rw [if_neg (show ¬ (false = true) by decide)] at H; exact H
  have H' := aM_ H
  clear H
  go_wp2
  go_meet
  case rel => exact ⟨_, (true), (by rfl), H', ⟨by omega⟩, ⟨BK694.out⟩, ⟨HB.out⟩⟩
 case rest =>
  clear HC3
  try clear p2
  try clear hcz5_0
  try clear hfz5_0
  obtain ⟨kq, x16_2, rfl, HA, HJ2, BK694, HB⟩ := hcut
  cases kq with
  | zero => exact absurd HA.out (by simp [impl_isTrie.j0])
  | succ kj2 =>
   have H := HA.out
   clear HA
   simp only [impl_isTrie.j0] at H
   by_cases c11 : x16_2 = true
   ·
    subst c11
    rw [if_pos rfl] at H
    obtain rfl := Option.some.inj H
    go_wp2
    go_ret
    exact ⟨by rfl, by exact HB.out⟩
   replace c11 := Bool.eq_false_iff.mpr c11
   subst c11
   replace H : ((impl_Trie_words.f kj2 l0_0).bind fun t700 => (if (t700.length : Int) ≤ 40 then ((slices_IsSorted_string_string.f kj2 t700).bind fun t703 => (if t703 = true then ((impl_trieOf.f kj2 t700).bind fun t704 => ((impl_Node.f kj2 t704 l0_0).bind fun t707 => (some t707))) else (some false))) else (some false))) = some r := by rw [if_neg (show ¬ (false = true) by decide)] at H; exact H
   replace H := oB_.mp H
   obtain ⟨t700, A120, H⟩ := H
   try dsimp only at H
   have A12 := aM_ A120
   clear A120
   by_cases c13 : (t700.length : Int) ≤ 40
   rotate_left
   ·
    rw [if_neg c13] at H
    have c13b0 := decide_eq_false c13
    have c13b1 : decide (t700.length ≤ 40) = false := decide_eq_false (by omega)
    clear c13
    obtain rfl := Option.some.inj H
    have hcz28_0 := c0_ BK694
    have hfz28_0 := bF_ BK694.out 0
    try go_wp2_with (first | ((with_reducible refine gC_ (f := 66) rfl ?_); refine goesL_ (some 18) rfl rfl Tryz.func66 (by kernel_rfl) rfl #[.agg #[.slice A0_0 l0_0.length c0_0]] rfl (by (try simp only [sD_, sE_, sF_]); rfl) ?_; (with_reducible refine (impl_Trie_words.calls kj2 _ _ l0_0 t700 _ ?side1 HC0_0.out A12.out).mono ?_); (case side1 => repeat (first | exact (k4_ HR0_0.out HB.out) | with_reducible first | apply Kd.C_alloc | apply Kd.C_drewN | apply Kd.C_drew)); rintro e w29 ⟨v701, rfl, ho0, hb⟩; refine ⟨_, rfl, ?_⟩; have HO702 := aM_ (k5_ ho0 (bZ_ HB.out)); replace BK694 := b5_ BK694 hb; replace HB := b4_ HB hb; (try clear hb); (try clear ho0)))
    have n0_ := aM_ (k3_ HO702.out)
    have n1_ := aM_ (b1_ BK694.out)
    have n2_ := aM_ (bD_ HB.out)
    clear HO702
    clear BK694
    clear HB
    have HO702 := n0_
    have BK694 := n1_
    have HB := n2_
    clear n0_ n1_ n2_
    obtain ⟨Ao31, co31, eo31⟩ := kS_ HO702.out
    (subst eo31)
    refine start_ (n := 16) (S := fun w' => True) (ds := []) #[fy, fy, fy, fy, fy, fy, fy, fy, fy, fy, fy, fy, fy, fy, fy, fy] (by kernel_rfl) rfl rfl trivial (fun hHeld => ?_); refine with_tabW impl_isTrie.tab5 impl_isTrie.bits5 (fun HT_ HW_ => ?_)
    generalize w29.drew = w30 at HO702 BK694 HB hHeld ⊢
    refine pu_ HT_ 0 19 #[ty, fy, fy, fy, fy, fy, fy, fy, fy, fy, fy, fy, fy, fy, fy, fy] (by kernel_rfl) rfl rfl (fun _ _ _ h => h) (by rfl) (by intro w'; go_simp; with_reducible rfl) (by simp only [Act.put, sA_, sB_, sC_, i6_, i3_]; rfl) ?_
    refine pu_ HT_ 1 20 #[ty, ty, fy, fy, fy, fy, fy, fy, fy, fy, fy, fy, fy, fy, fy, fy] (by kernel_rfl) rfl rfl (fun _ _ _ h => h) (by rfl) (by intro w'; go_simp; with_reducible rfl) (by simp only [Act.put, sA_, sB_, sC_, i6_, i3_]; rfl) ?_
    refine pu_ HT_ 2 21 #[ty, ty, ty, fy, fy, fy, fy, fy, fy, fy, fy, fy, fy, fy, fy, fy] (by kernel_rfl) rfl rfl (fun _ _ _ h => h) (by rfl) (by intro w'; go_simp; with_reducible rfl) (by simp only [Act.put, sA_, sB_, sC_, i6_, i3_]; rfl) ?_
    refine pu_ HT_ 3 22 #[ty, ty, ty, ty, fy, fy, fy, fy, fy, fy, fy, fy, fy, fy, fy, fy] (by kernel_rfl) rfl rfl (fun _ _ _ h => h) (by rfl) (by intro w'; go_simp; with_reducible rfl) (by simp only [Act.put, sA_, sB_, sC_, i6_, i3_]; rfl) ?_
    refine pure_ (i := 4) (N := some 23) (v := undef) (a' := ?_) #[ty, ty, ty, ty, ty, fy, fy, fy, fy, fy, fy, fy, fy, fy, fy, fy] rfl rfl (aO_ HT_.out (by kernel_rfl)) (fun _ _ _ h => h) (Or.inr ⟨by rfl, rfl⟩) ?_ ?_
    rotate_left
    ·
     simp only [Act.put, sA_, sB_, sC_, i6_, i3_]
     rfl
    refine pure_ (i := 5) (N := some 24) (v := undef) (a' := ?_) #[ty, ty, ty, ty, ty, ty, fy, fy, fy, fy, fy, fy, fy, fy, fy, fy] rfl rfl (aO_ HT_.out (by kernel_rfl)) (fun _ _ _ h => h) (Or.inr ⟨by rfl, rfl⟩) ?_ ?_
    rotate_left
    ·
     simp only [Act.put, sA_, sB_, sC_, i6_, i3_]
     rfl
    refine pu_ HT_ 6 25 #[ty, ty, ty, ty, ty, ty, ty, fy, fy, fy, fy, fy, fy, fy, fy, fy] (by kernel_rfl) rfl rfl (fun _ _ _ h => h) (by rfl) (by intro w'; go_simp; with_reducible rfl) (by simp only [Act.put, sA_, sB_, sC_, i6_, i3_]; rfl) ?_
    refine pu_ HT_ 7 26 #[ty, ty, ty, ty, ty, ty, ty, ty, fy, fy, fy, fy, fy, fy, fy, fy] (by kernel_rfl) rfl rfl (fun _ _ _ h => h) (by rfl) (by intro w'; go_simp; with_reducible rfl) (by simp only [Act.put, sA_, sB_, sC_, i6_, i3_]; rfl) ?_
    refine pure_ (i := 8) (N := some 27) (v := undef) (a' := ?_) #[ty, ty, ty, ty, ty, ty, ty, ty, ty, fy, fy, fy, fy, fy, fy, fy] rfl rfl (aO_ HT_.out (by kernel_rfl)) (fun _ _ _ h => h) (Or.inr ⟨by rfl, rfl⟩) ?_ ?_
    rotate_left
    ·
     simp only [Act.put, sA_, sB_, sC_, i6_, i3_]
     rfl
    refine pure_ (i := 9) (N := some 28) (v := undef) (a' := ?_) #[ty, ty, ty, ty, ty, ty, ty, ty, ty, ty, fy, fy, fy, fy, fy, fy] rfl rfl (aO_ HT_.out (by kernel_rfl)) (fun _ _ _ h => h) (Or.inr ⟨by rfl, rfl⟩) ?_ ?_
    rotate_left
    ·
     simp only [Act.put, sA_, sB_, sC_, i6_, i3_]
     rfl
    refine pure_ (i := 10) (N := some 29) (v := undef) (a' := ?_) #[ty, ty, ty, ty, ty, ty, ty, ty, ty, ty, ty, fy, fy, fy, fy, fy] rfl rfl (aO_ HT_.out (by kernel_rfl)) (fun _ _ _ h => h) (Or.inr ⟨by rfl, rfl⟩) ?_ ?_
    rotate_left
    ·
     simp only [Act.put, sA_, sB_, sC_, i6_, i3_]
     rfl
    refine pure_ (i := 11) (N := some 30) (v := undef) (a' := ?_) #[ty, ty, ty, ty, ty, ty, ty, ty, ty, ty, ty, ty, fy, fy, fy, fy] rfl rfl (aO_ HT_.out (by kernel_rfl)) (fun _ _ _ h => h) (Or.inr ⟨by rfl, rfl⟩) ?_ ?_
    rotate_left
    ·
     simp only [Act.put, sA_, sB_, sC_, i6_, i3_]
     rfl
    refine pure_ (i := 12) (N := some 31) (v := undef) (a' := ?_) #[ty, ty, ty, ty, ty, ty, ty, ty, ty, ty, ty, ty, ty, fy, fy, fy] rfl rfl (aO_ HT_.out (by kernel_rfl)) (fun _ _ _ h => h) (Or.inr ⟨by rfl, rfl⟩) ?_ ?_
    rotate_left
    ·
     simp only [Act.put, sA_, sB_, sC_, i6_, i3_]
     rfl
    refine pure_ (i := 13) (N := some 32) (v := undef) (a' := ?_) #[ty, ty, ty, ty, ty, ty, ty, ty, ty, ty, ty, ty, ty, ty, fy, fy] rfl rfl (aO_ HT_.out (by kernel_rfl)) (fun _ _ _ h => h) (Or.inr ⟨by rfl, rfl⟩) ?_ ?_
    rotate_left
    ·
     simp only [Act.put, sA_, sB_, sC_, i6_, i3_]
     rfl
    refine pu_ HT_ 14 33 #[ty, ty, ty, ty, ty, ty, ty, ty, ty, ty, ty, ty, ty, ty, ty, fy] (by kernel_rfl) rfl rfl (fun _ _ _ h => h) (by rfl) (by intro w'; go_simp; with_reducible rfl) (by simp only [Act.put, sA_, sB_, sC_, i6_, i3_]; rfl) ?_
    refine pu_ HT_ 15 2 #[ty, ty, ty, ty, ty, ty, ty, ty, ty, ty, ty, ty, ty, ty, ty, ty] (by kernel_rfl) rfl rfl (fun _ _ _ h => h) (by rfl) (by intro w'; go_simp; with_reducible rfl) (by simp only [Act.put, sA_, sB_, sC_, i6_, i3_]; rfl) ?_
    refine done_ (done_of HT_.out (by kernel_rfl)) ?_
    try go_wp2
    go_ret
    exact ⟨by rfl, by exact HB.out⟩
   rw [if_pos c13] at H
   have c13b0 := decide_eq_true c13
   have c13b1 : decide (t700.length ≤ 40) = true := decide_eq_true (by omega)
   clear c13
   replace H := oB_.mp H
   obtain ⟨t703, A140, H⟩ := H
   try dsimp only at H
   have A14 := aM_ A140
   clear A140
   by_cases c15 : t703 = true
   rotate_left
   ·
    replace c15 := Bool.eq_false_iff.mpr c15
    subst c15
    replace H : (some false) = some r := by rw [if_neg (show ¬ (false = true) by decide)] at H; exact H
    obtain rfl := Option.some.inj H
    have hcz24_0 := c0_ BK694
    have hfz24_0 := bF_ BK694.out 0
    try go_wp2_with (first | ((with_reducible refine gC_ (f := 66) rfl ?_); refine goesL_ (some 18) rfl rfl Tryz.func66 (by kernel_rfl) rfl #[.agg #[.slice A0_0 l0_0.length c0_0]] rfl (by (try simp only [sD_, sE_, sF_]); rfl) ?_; (with_reducible refine (impl_Trie_words.calls kj2 _ _ l0_0 t700 _ ?side1 HC0_0.out A12.out).mono ?_); (case side1 => repeat (first | exact (k4_ HR0_0.out HB.out) | with_reducible first | apply Kd.C_alloc | apply Kd.C_drewN | apply Kd.C_drew)); rintro e w25 ⟨v701, rfl, ho0, hb⟩; refine ⟨_, rfl, ?_⟩; have HO702 := aM_ (k5_ ho0 (bZ_ HB.out)); replace BK694 := b5_ BK694 hb; replace HB := b4_ HB hb; (try clear hb); (try clear ho0)))
    have n0_ := aM_ (k3_ HO702.out)
    have n1_ := aM_ (b1_ BK694.out)
    have n2_ := aM_ (bD_ HB.out)
    clear HO702
    clear BK694
    clear HB
    have HO702 := n0_
    have BK694 := n1_
    have HB := n2_
    clear n0_ n1_ n2_
    obtain ⟨Ao27, co27, eo27⟩ := kS_ HO702.out
    (subst eo27)
    refine start_ (n := 16) (S := fun w' => True) (ds := []) #[fy, fy, fy, fy, fy, fy, fy, fy, fy, fy, fy, fy, fy, fy, fy, fy] (by kernel_rfl) rfl rfl trivial (fun hHeld => ?_); refine with_tabW impl_isTrie.tab5 impl_isTrie.bits5 (fun HT_ HW_ => ?_)
    generalize w25.drew = w26 at HO702 BK694 HB hHeld ⊢
    refine pu_ HT_ 0 19 #[ty, fy, fy, fy, fy, fy, fy, fy, fy, fy, fy, fy, fy, fy, fy, fy] (by kernel_rfl) rfl rfl (fun _ _ _ h => h) (by rfl) (by intro w'; go_simp; with_reducible rfl) (by simp only [Act.put, sA_, sB_, sC_, i6_, i3_]; rfl) ?_
    refine pu_ HT_ 1 20 #[ty, ty, fy, fy, fy, fy, fy, fy, fy, fy, fy, fy, fy, fy, fy, fy] (by kernel_rfl) rfl rfl (fun _ _ _ h => h) (by rfl) (by intro w'; go_simp; with_reducible rfl) (by simp only [Act.put, sA_, sB_, sC_, i6_, i3_]; rfl) ?_
    refine pu_ HT_ 2 21 #[ty, ty, ty, fy, fy, fy, fy, fy, fy, fy, fy, fy, fy, fy, fy, fy] (by kernel_rfl) rfl rfl (fun _ _ _ h => h) (by rfl) (by intro w'; go_simp; with_reducible rfl) (by simp only [Act.put, sA_, sB_, sC_, i6_, i3_]; rfl) ?_
    refine pu_ HT_ 3 22 #[ty, ty, ty, ty, fy, fy, fy, fy, fy, fy, fy, fy, fy, fy, fy, fy] (by kernel_rfl) rfl rfl (fun _ _ _ h => h) (by rfl) (by intro w'; go_simp; with_reducible rfl) (by simp only [Act.put, sA_, sB_, sC_, i6_, i3_]; rfl) ?_
    refine pu_ HT_ 4 23 #[ty, ty, ty, ty, ty, fy, fy, fy, fy, fy, fy, fy, fy, fy, fy, fy] (by kernel_rfl) rfl rfl (fun _ _ _ h => h) (by rfl) (by intro w'; go_simp; with_reducible rfl) (by simp only [Act.put, sA_, sB_, sC_, i6_, i3_]; rfl) ?_
    refine one_ (i := 5) (N := some 24) #[ty, ty, ty, ty, ty, ty, fy, fy, fy, fy, fy, fy, fy, fy, fy, fy] rfl rfl (one_of HT_.out (by kernel_rfl)) (by decide) (fun K hK => ?_)
    refine goes_ Tryz.func111 (by kernel_rfl) rfl #[.slice Ao27 t700.length co27] (by rfl) rfl rfl (by (try simp only [sD_, sE_, sF_]); rfl) ?_
    with_reducible refine (slices_IsSorted_string_string.calls kj2 _ _ t700 false _ ?side1 ?side2 A14.out).mono ?_
    (case side1 => repeat (first | exact (kR_ HO702.out).2.2 | with_reducible first | apply Kd.C_alloc | apply Kd.C_drewN | apply Kd.C_drew))
    (case side2 => exact (kR_ HO702.out).2.1)
    rintro e w' ⟨rfl, ⟨nd, rfl⟩⟩
    refine ⟨_, rfl, ?_⟩
    refine hK.out _ _ trivial (fun hHeld => ?_)
    clear hK K
    refine norm_ (by show Act.put _ (some 24) _ = _; simp only [Act.put, sA_, sB_, sC_, i6_, i3_]; rfl) ?_
    refine pu_ HT_ 6 25 #[ty, ty, ty, ty, ty, ty, ty, fy, fy, fy, fy, fy, fy, fy, fy, fy] (by kernel_rfl) rfl rfl (fun _ _ _ h => h) (by rfl) (by intro w'; go_simp; with_reducible rfl) (by simp only [Act.put, sA_, sB_, sC_, i6_, i3_]; rfl) ?_
    refine pu_ HT_ 7 26 #[ty, ty, ty, ty, ty, ty, ty, ty, fy, fy, fy, fy, fy, fy, fy, fy] (by kernel_rfl) rfl rfl (fun _ _ _ h => h) (by rfl) (by intro w'; go_simp; with_reducible rfl) (by simp only [Act.put, sA_, sB_, sC_, i6_, i3_]; rfl) ?_
    refine pure_ (i := 8) (N := some 27) (v := undef) (a' := ?_) #[ty, ty, ty, ty, ty, ty, ty, ty, ty, fy, fy, fy, fy, fy, fy, fy] rfl rfl (aO_ HT_.out (by kernel_rfl)) (fun _ _ _ h => h) (Or.inr ⟨by rfl, rfl⟩) ?_ ?_
    rotate_left
    ·
     simp only [Act.put, sA_, sB_, sC_, i6_, i3_]
     rfl
    refine pure_ (i := 9) (N := some 28) (v := undef) (a' := ?_) #[ty, ty, ty, ty, ty, ty, ty, ty, ty, ty, fy, fy, fy, fy, fy, fy] rfl rfl (aO_ HT_.out (by kernel_rfl)) (fun _ _ _ h => h) (Or.inr ⟨by rfl, rfl⟩) ?_ ?_
    rotate_left
    ·
     simp only [Act.put, sA_, sB_, sC_, i6_, i3_]
     rfl
    refine pure_ (i := 10) (N := some 29) (v := undef) (a' := ?_) #[ty, ty, ty, ty, ty, ty, ty, ty, ty, ty, ty, fy, fy, fy, fy, fy] rfl rfl (aO_ HT_.out (by kernel_rfl)) (fun _ _ _ h => h) (Or.inr ⟨by rfl, rfl⟩) ?_ ?_
    rotate_left
    ·
     simp only [Act.put, sA_, sB_, sC_, i6_, i3_]
     rfl
    refine pure_ (i := 11) (N := some 30) (v := undef) (a' := ?_) #[ty, ty, ty, ty, ty, ty, ty, ty, ty, ty, ty, ty, fy, fy, fy, fy] rfl rfl (aO_ HT_.out (by kernel_rfl)) (fun _ _ _ h => h) (Or.inr ⟨by rfl, rfl⟩) ?_ ?_
    rotate_left
    ·
     simp only [Act.put, sA_, sB_, sC_, i6_, i3_]
     rfl
    refine pure_ (i := 12) (N := some 31) (v := undef) (a' := ?_) #[ty, ty, ty, ty, ty, ty, ty, ty, ty, ty, ty, ty, ty, fy, fy, fy] rfl rfl (aO_ HT_.out (by kernel_rfl)) (fun _ _ _ h => h) (Or.inr ⟨by rfl, rfl⟩) ?_ ?_
    rotate_left
    ·
     simp only [Act.put, sA_, sB_, sC_, i6_, i3_]
     rfl
    refine pure_ (i := 13) (N := some 32) (v := undef) (a' := ?_) #[ty, ty, ty, ty, ty, ty, ty, ty, ty, ty, ty, ty, ty, ty, fy, fy] rfl rfl (aO_ HT_.out (by kernel_rfl)) (fun _ _ _ h => h) (Or.inr ⟨by rfl, rfl⟩) ?_ ?_
    rotate_left
    ·
     simp only [Act.put, sA_, sB_, sC_, i6_, i3_]
     rfl
    refine pu_ HT_ 14 33 #[ty, ty, ty, ty, ty, ty, ty, ty, ty, ty, ty, ty, ty, ty, ty, fy] (by kernel_rfl) rfl rfl (fun _ _ _ h => h) (by rfl) (by intro w'; go_simp; with_reducible rfl) (by simp only [Act.put, sA_, sB_, sC_, i6_, i3_]; rfl) ?_
    refine pu_ HT_ 15 2 #[ty, ty, ty, ty, ty, ty, ty, ty, ty, ty, ty, ty, ty, ty, ty, ty] (by kernel_rfl) rfl rfl (fun _ _ _ h => h) (by rfl) (by intro w'; go_simp; with_reducible rfl) (by simp only [Act.put, sA_, sB_, sC_, i6_, i3_]; rfl) ?_
    refine done_ (done_of HT_.out (by kernel_rfl)) ?_
    try go_wp2
    go_ret
    exact ⟨by rfl, by repeat with_reducible first | exact HB.out | apply bA_ | apply bN_ | apply bD_ | refine bS_ ?_ GW694.out⟩
   subst c15
   rw [if_pos rfl] at H
   replace H := oB_.mp H
   obtain ⟨t704, A160, H⟩ := H
   try dsimp only at H
   have A16 := aM_ A160
   clear A160
   replace H := oB_.mp H
   obtain ⟨t707, A170, H⟩ := H
   try dsimp only at H
   have A17 := aM_ A170
   clear A170
   obtain rfl := Option.some.inj H
   have hcz18_0 := c0_ BK694
   have hfz18_0 := bF_ BK694.out 0
   try go_wp2_with (first | ((with_reducible refine gC_ (f := 66) rfl ?_); refine goesL_ (some 18) rfl rfl Tryz.func66 (by kernel_rfl) rfl #[.agg #[.slice A0_0 l0_0.length c0_0]] rfl (by (try simp only [sD_, sE_, sF_]); rfl) ?_; (with_reducible refine (impl_Trie_words.calls kj2 _ _ l0_0 t700 _ ?side1 HC0_0.out A12.out).mono ?_); (case side1 => repeat (first | exact (k4_ HR0_0.out HB.out) | with_reducible first | apply Kd.C_alloc | apply Kd.C_drewN | apply Kd.C_drew)); rintro e w19 ⟨v701, rfl, ho0, hb⟩; refine ⟨_, rfl, ?_⟩; have HO702 := aM_ (k5_ ho0 (bZ_ HB.out)); replace BK694 := b5_ BK694 hb; replace HB := b4_ HB hb; (try clear hb); (try clear ho0)))
   have n0_ := aM_ (k3_ HO702.out)
   have n1_ := aM_ (b1_ BK694.out)
   have n2_ := aM_ (bD_ HB.out)
   clear HO702
   clear BK694
   clear HB
   have HO702 := n0_
   have BK694 := n1_
   have HB := n2_
   clear n0_ n1_ n2_
   obtain ⟨Ao21, co21, eo21⟩ := kS_ HO702.out
   (subst eo21)
   refine start_ (n := 16) (S := fun w' => w'.cell? ⟨gb694, 0, none⟩ = some (.slice A0_0 l0_0.length c0_0)) (ds := []) #[fy, fy, fy, fy, fy, fy, fy, fy, fy, fy, fy, fy, fy, fy, fy, fy] (by kernel_rfl) rfl rfl ((bC_ BK694.out 0).trans rfl) (fun hHeld => ?_); refine with_tabW impl_isTrie.tab5 impl_isTrie.bits5 (fun HT_ HW_ => ?_)
   generalize w19.drew = w20 at HO702 BK694 HB hHeld ⊢
   refine pu_ HT_ 0 19 #[ty, fy, fy, fy, fy, fy, fy, fy, fy, fy, fy, fy, fy, fy, fy, fy] (by kernel_rfl) rfl rfl (fun _ _ _ h => h) (by rfl) (by intro w'; go_simp; with_reducible rfl) (by simp only [Act.put, sA_, sB_, sC_, i6_, i3_]; rfl) ?_
   refine pu_ HT_ 1 20 #[ty, ty, fy, fy, fy, fy, fy, fy, fy, fy, fy, fy, fy, fy, fy, fy] (by kernel_rfl) rfl rfl (fun _ _ _ h => h) (by rfl) (by intro w'; go_simp; with_reducible rfl) (by simp only [Act.put, sA_, sB_, sC_, i6_, i3_]; rfl) ?_
   refine pu_ HT_ 2 21 #[ty, ty, ty, fy, fy, fy, fy, fy, fy, fy, fy, fy, fy, fy, fy, fy] (by kernel_rfl) rfl rfl (fun _ _ _ h => h) (by rfl) (by intro w'; go_simp; with_reducible rfl) (by simp only [Act.put, sA_, sB_, sC_, i6_, i3_]; rfl) ?_
   refine pu_ HT_ 3 22 #[ty, ty, ty, ty, fy, fy, fy, fy, fy, fy, fy, fy, fy, fy, fy, fy] (by kernel_rfl) rfl rfl (fun _ _ _ h => h) (by rfl) (by intro w'; go_simp; with_reducible rfl) (by simp only [Act.put, sA_, sB_, sC_, i6_, i3_]; rfl) ?_
   refine pu_ HT_ 4 23 #[ty, ty, ty, ty, ty, fy, fy, fy, fy, fy, fy, fy, fy, fy, fy, fy] (by kernel_rfl) rfl rfl (fun _ _ _ h => h) (by rfl) (by intro w'; go_simp; with_reducible rfl) (by simp only [Act.put, sA_, sB_, sC_, i6_, i3_]; rfl) ?_
   refine one_ (i := 5) (N := some 24) #[ty, ty, ty, ty, ty, ty, fy, fy, fy, fy, fy, fy, fy, fy, fy, fy] rfl rfl (one_of HT_.out (by kernel_rfl)) (by decide) (fun K hK => ?_)
   refine goes_ Tryz.func111 (by kernel_rfl) rfl #[.slice Ao21 t700.length co21] (by rfl) rfl rfl (by (try simp only [sD_, sE_, sF_]); rfl) ?_
   with_reducible refine (slices_IsSorted_string_string.calls kj2 _ _ t700 true _ ?side1 ?side2 A14.out).mono ?_
   (case side1 => repeat (first | exact (kR_ HO702.out).2.2 | with_reducible first | apply Kd.C_alloc | apply Kd.C_drewN | apply Kd.C_drew))
   (case side2 => exact (kR_ HO702.out).2.1)
   rintro e w' ⟨rfl, ⟨nd, rfl⟩⟩
   refine ⟨_, rfl, ?_⟩
   refine hK.out _ _ ((bC_ BK694.out 0).trans rfl) (fun hHeld => ?_)
   clear hK K
   refine norm_ (by show Act.put _ (some 24) _ = _; simp only [Act.put, sA_, sB_, sC_, i6_, i3_]; rfl) ?_
   refine pu_ HT_ 6 25 #[ty, ty, ty, ty, ty, ty, ty, fy, fy, fy, fy, fy, fy, fy, fy, fy] (by kernel_rfl) rfl rfl (fun _ _ _ h => h) (by rfl) (by intro w'; go_simp; with_reducible rfl) (by simp only [Act.put, sA_, sB_, sC_, i6_, i3_]; rfl) ?_
   refine pu_ HT_ 7 26 #[ty, ty, ty, ty, ty, ty, ty, ty, fy, fy, fy, fy, fy, fy, fy, fy] (by kernel_rfl) rfl rfl (fun _ _ _ h => h) (by rfl) (by intro w'; go_simp; with_reducible rfl) (by simp only [Act.put, sA_, sB_, sC_, i6_, i3_]; rfl) ?_
   refine pu_ HT_ 8 27 #[ty, ty, ty, ty, ty, ty, ty, ty, ty, fy, fy, fy, fy, fy, fy, fy] (by kernel_rfl) rfl rfl (fun _ _ _ h => h) (by rfl) (by intro w'; go_simp; with_reducible rfl) (by simp only [Act.put, sA_, sB_, sC_, i6_, i3_]; rfl) ?_
   refine pu_ HT_ 11 30 #[ty, ty, ty, ty, ty, ty, ty, ty, ty, fy, fy, ty, fy, fy, fy, fy] (by kernel_rfl) rfl rfl (fun _ _ _ h => h) (by rfl) (by intro w'; go_simp; with_reducible rfl) (by simp only [Act.put, sA_, sB_, sC_, i6_, i3_]; rfl) ?_
   refine take_ (i := 12) (N := some 31) (v := ?_) (a' := ?_) #[ty, ty, ty, ty, ty, ty, ty, ty, ty, fy, fy, ty, ty, fy, fy, fy] rfl rfl (tW_ HT_.out HW_.out (by kernel_rfl)) (fun _ _ _ h => h) (Or.inl ⟨by rfl, ?_⟩) hHeld ?_ ?_; rotate_left; (intro w' s0; go_simp; with_reducible rfl); rotate_left; (simp only [Act.put, sA_, sB_, sC_, i6_, i3_]; rfl)
   refine one_ (i := 9) (N := some 28) #[ty, ty, ty, ty, ty, ty, ty, ty, ty, ty, fy, ty, ty, fy, fy, fy] rfl rfl (one_of HT_.out (by kernel_rfl)) (by decide) (fun K hK => ?_)
   refine goes_ Tryz.func79 (by kernel_rfl) rfl #[.slice Ao21 t700.length co21] (by rfl) rfl rfl (by (try simp only [sD_, sE_, sF_]); rfl) ?_
   with_reducible refine (impl_trieOf.calls kj2 _ _ t700 t704 _ ?side1 ?side2 A16.out).mono ?_
   (case side1 => repeat (first | exact (kR_ HO702.out).2.2 | with_reducible first | apply Kd.C_alloc | apply Kd.C_drewN | apply Kd.C_drew))
   (case side2 => exact (kR_ HO702.out).2.1)
   rintro e w22 ⟨v705, rfl, ho0, hb⟩
   refine ⟨_, rfl, ?_⟩
   have n0_ := aM_ (kB_ (by (with_reducible repeat (first | apply k1_ | apply k2_ | apply k3_)); exact HO702.out) hb)
   have n1_ := aM_ (k5_ ho0 (bZ_ (by repeat with_reducible first | exact HB.out | apply bA_ | apply bN_ | apply bD_ | refine bS_ ?_ GW694.out)))
   have n2_ := aM_ (bB_ (g := gb694) (o := .cells #[.slice A0_0 l0_0.length c0_0] 36 (0, 0)) (by (with_reducible repeat (first | refine b2_ ?_ _ | refine b1_ ?_ | refine b3_ ?_ _)); exact BK694.out) hb)
   have n3_ := aM_ (bT_ (by repeat with_reducible first | exact HB.out | apply bA_ | apply bN_ | apply bD_ | refine bS_ ?_ GW694.out) hb)
   clear HO702
   clear BK694
   clear HB
   have HO702 := n0_
   have HO706 := n1_
   have BK694 := n2_
   have HB := n3_
   clear n0_ n1_ n2_ n3_
   (try clear hb)
   (try clear ho0)
   obtain ⟨Ao23, co23, eo23⟩ := kS_ HO706.out
   (subst eo23)
   refine hK.out _ _ ((bC_ BK694.out 0).trans rfl) (fun hHeld => ?_)
   clear hK K
   refine norm_ (by show Act.put _ (some 28) _ = _; simp only [Act.put, sA_, sB_, sC_, i6_, i3_]; rfl) ?_
   refine pu_ HT_ 10 29 #[ty, ty, ty, ty, ty, ty, ty, ty, ty, ty, ty, ty, ty, fy, fy, fy] (by kernel_rfl) rfl rfl (fun _ _ _ h => h) (by rfl) (by intro w'; go_simp; with_reducible rfl) (by simp only [Act.put, sA_, sB_, sC_, i6_, i3_]; rfl) ?_
   refine one_ (i := 13) (N := some 32) #[ty, ty, ty, ty, ty, ty, ty, ty, ty, ty, ty, ty, ty, ty, fy, fy] rfl rfl (one_of HT_.out (by kernel_rfl)) (by decide) (fun K hK => ?_)
   refine goes_ Tryz.func112 (by kernel_rfl) rfl #[.slice Ao23 t704.length co23, .slice A0_0 l0_0.length c0_0] (by rfl) rfl rfl (by (try simp only [sD_, sE_, sF_]); rfl) ?_
   with_reducible refine (impl_Node.calls kj2 _ _ t704 _ _ l0_0 t707 _ ?side1 ?side2 ?side3 ?side4 A17.out).mono ?_
   (case side1 => repeat (first | exact (kR_ HO706.out).2.2 | with_reducible first | apply Kd.C_alloc | apply Kd.C_drewN | apply Kd.C_drew))
   (case side2 => exact (kR_ HO706.out).2.1)
   (case side3 => repeat (first | exact (k4_ HR0_0.out HB.out) | with_reducible first | apply Kd.C_alloc | apply Kd.C_drewN | apply Kd.C_drew))
   (case side4 => exact HC0_0.out)
   rintro e w' ⟨rfl, ⟨nd, rfl⟩⟩
   refine ⟨_, rfl, ?_⟩
   refine hK.out _ _ ((bC_ BK694.out 0).trans rfl) (fun hHeld => ?_)
   clear hK K
   refine norm_ (by show Act.put _ (some 32) _ = _; simp only [Act.put, sA_, sB_, sC_, i6_, i3_]; rfl) ?_
   refine pu_ HT_ 14 33 #[ty, ty, ty, ty, ty, ty, ty, ty, ty, ty, ty, ty, ty, ty, ty, fy] (by kernel_rfl) rfl rfl (fun _ _ _ h => h) (by rfl) (by intro w'; go_simp; with_reducible rfl) (by simp only [Act.put, sA_, sB_, sC_, i6_, i3_]; rfl) ?_
   refine pu_ HT_ 15 2 #[ty, ty, ty, ty, ty, ty, ty, ty, ty, ty, ty, ty, ty, ty, ty, ty] (by kernel_rfl) rfl rfl (fun _ _ _ h => h) (by rfl) (by intro w'; go_simp; with_reducible rfl) (by simp only [Act.put, sA_, sB_, sC_, i6_, i3_]; rfl) ?_
   refine done_ (done_of HT_.out (by kernel_rfl)) ?_
   try go_wp2
   go_ret
   exact ⟨by rfl, by repeat with_reducible first | exact HB.out | apply bA_ | apply bN_ | apply bD_ | refine bS_ ?_ GW694.out⟩
def impl_areKept.f (k : Nat) (l0_0 : List (S76)) (a1 : ByteArray) : Option (Bool) := (impl_isTrie.f k l0_0).bind fun t709 => (if t709 = true then ((impl_isWord.f a1).bind fun t710 => (some t710)) else (some false))
theorem impl_areKept.mono : ∀ a0 a1 k, LeO (impl_areKept.f k a0 a1) (impl_areKept.f (k + 1) a0 a1) := by
 intro a0 a1 k
 unfold impl_areKept.f
 repeat' with_reducible first | exact impl_isTrie.mono _ _ | exact l3_ _ | exact l0_ _ | refine l2_ ?_ ?_ | refine l1_ ?_ (fun _ => ?_)
theorem impl_areKept.calls (k : Nat) (A0_0 : Option Addr) (c0_0 : Nat) (l0_0 : List (S76)) (a1 : ByteArray) (r : Bool) (w : World) (hr0_0 : Kd.C k76 w A0_0 l0_0.length l0_0) (hc0_0 : l0_0.length ≤ c0_0) (h : impl_areKept.f k l0_0 a1 = some r) :
  Calls Tryz.prog 76 #[.agg #[.slice A0_0 l0_0.length c0_0], .string a1] w fun e w' => e = .returned (.bool r) ∧ Below w.heap.size w w' := by
 have hu36 := Tryz.underlying36
 have HR0_0 := aM_ hr0_0
 have HC0_0 := aM_ hc0_0
 clear hr0_0 hc0_0
 have HB := aM_ (Below.refl w.heap.size w)
 have H : ((impl_isTrie.f k l0_0).bind fun t709 => (if t709 = true then ((impl_isWord.f a1).bind fun t710 => (some t710)) else (some false))) = some r := h
 clear h
 replace H := oB_.mp H
 obtain ⟨t709, A30, H⟩ := H
 try dsimp only at H
 have A3 := aM_ A30
 clear A30
 by_cases c4 : t709 = true
 ·
  subst c4
  rw [if_pos rfl] at H
  replace H := oB_.mp H
  obtain ⟨t710, A50, H⟩ := H
  try dsimp only at H
  have A5 := aM_ A50
  clear A50
  obtain rfl := Option.some.inj H
  go_enter Tryz.func76, Tryz.ntmps76
  go_wp2_with (first | (refine bx_ 2 #[.slice A0_0 l0_0.length c0_0] 36 (by with_reducible rfl) rfl (by go_simp; done) ?_; intro gb708 hg w6 hbox hb; have BK708 := aM_ (hbox); have GW708 := gw_ hg HB; replace HB := b4_ HB hb; clear hb hbox hg; have hcz7_0 := c0_ BK708; have hfz7_0 := bF_ BK708.out 0) | ((with_reducible refine gC_ (f := 92) rfl ?_); refine goesL_ (some 6) rfl rfl Tryz.func92 (by kernel_rfl) rfl #[.agg #[.slice A0_0 l0_0.length c0_0]] rfl (by (try simp only [sD_, sE_, sF_]); rfl) ?_; (with_reducible refine (impl_isTrie.calls k _ _ l0_0 true _ ?side1 HC0_0.out A3.out).mono ?_); (case side1 => repeat (first | exact (k4_ HR0_0.out HB.out) | with_reducible first | apply Kd.C_alloc | apply Kd.C_drewN | apply Kd.C_drew)); rintro e w8 ⟨rfl, hb⟩; refine ⟨_, rfl, ?_⟩; replace BK708 := b5_ BK708 hb; replace HB := b4_ HB hb; (try clear hb)) | (go_at_call 34; (with_reducible refine (impl_isWord.calls a1 t710 _ A5.out).mono ?_); rintro e w9 ⟨rfl, hb⟩; replace BK708 := b5_ BK708 hb; replace HB := b4_ HB hb; (try clear hb)))
  go_ret
  exact ⟨by rfl, by exact HB.out⟩
 replace c4 := Bool.eq_false_iff.mpr c4
 subst c4
 replace H : (some false) = some r := by rw [if_neg (show ¬ (false = true) by decide)] at H; exact H
 obtain rfl := Option.some.inj H
 go_enter Tryz.func76, Tryz.ntmps76
 go_wp2_with (first | (refine bx_ 2 #[.slice A0_0 l0_0.length c0_0] 36 (by with_reducible rfl) rfl (by go_simp; done) ?_; intro gb708 hg w10 hbox hb; have BK708 := aM_ (hbox); have GW708 := gw_ hg HB; replace HB := b4_ HB hb; clear hb hbox hg; have hcz11_0 := c0_ BK708; have hfz11_0 := bF_ BK708.out 0) | ((with_reducible refine gC_ (f := 92) rfl ?_); refine goesL_ (some 6) rfl rfl Tryz.func92 (by kernel_rfl) rfl #[.agg #[.slice A0_0 l0_0.length c0_0]] rfl (by (try simp only [sD_, sE_, sF_]); rfl) ?_; (with_reducible refine (impl_isTrie.calls k _ _ l0_0 false _ ?side1 HC0_0.out A3.out).mono ?_); (case side1 => repeat (first | exact (k4_ HR0_0.out HB.out) | with_reducible first | apply Kd.C_alloc | apply Kd.C_drewN | apply Kd.C_drew)); rintro e w12 ⟨rfl, hb⟩; refine ⟨_, rfl, ?_⟩; replace BK708 := b5_ BK708 hb; replace HB := b4_ HB hb; (try clear hb)))
 go_ret
 exact ⟨by rfl, by exact HB.out⟩
def impl_AddWord.f (k : Nat) (l0_0 : List (S76)) (a1 : ByteArray) : Option ((List (S76)) × Bool) := (impl_areKept.f k l0_0 a1).bind fun t713 => (if t713 = true then ((impl_Trie_words.f k l0_0).bind fun t714 => (if t714.length < 8796093022208 then ((impl_ofWords.f k (t714 ++ [a1])).bind fun bt720 => (some (bt720.1, bt720.2))) else (none))) else (some (([] : List (S76)), false)))
theorem impl_AddWord.mono : ∀ a0 a1 k, LeO (impl_AddWord.f k a0 a1) (impl_AddWord.f (k + 1) a0 a1) := by
 intro a0 a1 k
 unfold impl_AddWord.f
 repeat' with_reducible first | exact impl_Trie_words.mono _ _ | exact impl_areKept.mono _ _ _ | exact impl_ofWords.mono _ _ | exact l3_ _ | exact l0_ _ | refine l2_ ?_ ?_ | refine l1_ ?_ (fun _ => ?_)
theorem impl_AddWord.calls (k : Nat) (A0_0 : Option Addr) (c0_0 : Nat) (l0_0 : List (S76)) (a1 : ByteArray) (r1 : List (S76)) (r2 : Bool) (w : World) (hr0_0 : Kd.C k76 w A0_0 l0_0.length l0_0) (hc0_0 : l0_0.length ≤ c0_0) (h : impl_AddWord.f k l0_0 a1 = some (r1, r2)) :
  Calls Tryz.prog 49 #[.agg #[.slice A0_0 l0_0.length c0_0], .string a1] w fun e w' => ∃ v0_ : Value, e = .returned (.tuple #[.agg #[v0_], .bool r2]) ∧ Kd.R k76 76 w' w.heap.size (fun _ => True) v0_ r1 ∧ Below w.heap.size w w' := by
 have hu36 := Tryz.underlying36
 have HR0_0 := aM_ hr0_0
 have HC0_0 := aM_ hc0_0
 clear hr0_0 hc0_0
 have HB := aM_ (Below.refl w.heap.size w)
 have H : ((impl_areKept.f k l0_0 a1).bind fun t713 => (if t713 = true then ((impl_Trie_words.f k l0_0).bind fun t714 => (if t714.length < 8796093022208 then ((impl_ofWords.f k (t714 ++ [a1])).bind fun bt720 => (some (bt720.1, bt720.2))) else (none))) else (some (([] : List (S76)), false)))) = some (r1, r2) := h
 clear h
 replace H := oB_.mp H
 obtain ⟨t713, A30, H⟩ := H
 try dsimp only at H
 have A3 := aM_ A30
 clear A30
 by_cases c4 : t713 = true
 rotate_left
 ·
  replace c4 := Bool.eq_false_iff.mpr c4
  subst c4
  replace H : (some (([] : List (S76)), false)) = some (r1, r2) := by rw [if_neg (show ¬ (false = true) by decide)] at H; exact H
  simp only [Option.some.injEq, Prod.mk.injEq] at H
  obtain ⟨rfl, rfl⟩ := H
  go_enter Tryz.func49, Tryz.ntmps49
  go_wp2_with (first | (refine bx_ 2 #[.slice A0_0 l0_0.length c0_0] 36 (by with_reducible rfl) rfl (by go_simp; done) ?_; intro gb711 hg w20 hbox hb; have BK711 := aM_ (hbox); have GW711 := gw_ hg HB; replace HB := b4_ HB hb; clear hb hbox hg) | (refine bx_ 4 #[.slice none 0 0] 36 (by with_reducible rfl) rfl (by go_simp; done) ?_; intro gb712 hg w21 hbox hb; have BK712 := aM_ (hbox); have GW712 := gw_ hg HB; replace HB := b4_ HB hb; have NB711_712 := nb_ hg BK711; have NB712_711 := ns_ NB711_712; replace BK711 := b5_ BK711 hb; clear hb hbox hg; have hnb22 := NB711_712.out; have hnc22 := NB712_711.out; have hcz23_0 := c0_ BK711; have hfz23_0 := bF_ BK711.out 0) | ((with_reducible refine gC_ (f := 76) rfl ?_); refine goesL_ (some 8) rfl rfl Tryz.func76 (by kernel_rfl) rfl #[.agg #[.slice A0_0 l0_0.length c0_0], .string a1] rfl (by (try simp only [sD_, sE_, sF_]); rfl) ?_; (with_reducible refine (impl_areKept.calls k _ _ l0_0 a1 false _ ?side1 HC0_0.out A3.out).mono ?_); (case side1 => repeat (first | exact (k4_ HR0_0.out HB.out) | with_reducible first | apply Kd.C_alloc | apply Kd.C_drewN | apply Kd.C_drew)); rintro e w24 ⟨rfl, hb⟩; refine ⟨_, rfl, ?_⟩; replace BK711 := b5_ BK711 hb; replace BK712 := b5_ BK712 hb; replace HB := b4_ HB hb; (try clear hb); have hcz25_0 := c0_ BK712; have hfz25_0 := bF_ BK712.out 0))
  refine bodyPost_ret (results_ct rfl _ _ gb712 36 #[.slice none 0 0] (0, 0) _ rfl (by refine bP_ (cs := #[.slice none 0 0]) ?_ 0 _ rfl; exact BK712.out) Tryz.underlying36 rfl (by kernel_rfl)) rfl ?_
  exact ⟨_, by rfl, by exact Kd.R_nil _ _ _ _ _, by repeat with_reducible first | exact HB.out | apply bA_ | apply bN_ | apply bD_ | refine bS_ ?_ (Aside0.out ‹_›)⟩
 subst c4
 rw [if_pos rfl] at H
 replace H := oB_.mp H
 obtain ⟨t714, A50, H⟩ := H
 try dsimp only at H
 have A5 := aM_ A50
 clear A50
 by_cases c6 : t714.length < 8796093022208
 rotate_left
 ·
  rw [if_neg c6] at H
  exact absurd H (by simp)
 rw [if_pos c6] at H
 have LMc6 := aM_ c6
 clear c6
 obtain ⟨y717, hy717⟩ : ∃ y_ : List ByteArray, y_ = (t714 ++ [a1]) := ⟨_, rfl⟩
 replace H : ((impl_ofWords.f k y717).bind fun bt720 => (some (bt720.1, bt720.2))) = some (r1, r2) := by (try rw [hy717]); first | with_reducible exact H | with_reducible exact (Option.bind_some _ _).symm.trans H | exact H
 have Ny717 := aM_ hy717
 clear hy717
 replace H := oB_.mp H
 obtain ⟨⟨t720, t723⟩, A70, H⟩ := H
 try dsimp only at H
 have A7 := aM_ A70
 clear A70
 simp only [Option.some.injEq, Prod.mk.injEq] at H
 obtain ⟨rfl, rfl⟩ := H
 go_enter Tryz.func49, Tryz.ntmps49
 go_wp2_with (first | (refine bx_ 2 #[.slice A0_0 l0_0.length c0_0] 36 (by with_reducible rfl) rfl (by go_simp; done) ?_; intro gb711 hg w8 hbox hb; have BK711 := aM_ (hbox); have GW711 := gw_ hg HB; replace HB := b4_ HB hb; clear hb hbox hg) | (refine bx_ 4 #[.slice none 0 0] 36 (by with_reducible rfl) rfl (by go_simp; done) ?_; intro gb712 hg w9 hbox hb; have BK712 := aM_ (hbox); have GW712 := gw_ hg HB; replace HB := b4_ HB hb; have NB711_712 := nb_ hg BK711; have NB712_711 := ns_ NB711_712; replace BK711 := b5_ BK711 hb; clear hb hbox hg; have hnb10 := NB711_712.out; have hnc10 := NB712_711.out; have hcz11_0 := c0_ BK711; have hfz11_0 := bF_ BK711.out 0) | ((with_reducible refine gC_ (f := 76) rfl ?_); refine goesL_ (some 8) rfl rfl Tryz.func76 (by kernel_rfl) rfl #[.agg #[.slice A0_0 l0_0.length c0_0], .string a1] rfl (by (try simp only [sD_, sE_, sF_]); rfl) ?_; (with_reducible refine (impl_areKept.calls k _ _ l0_0 a1 true _ ?side1 HC0_0.out A3.out).mono ?_); (case side1 => repeat (first | exact (k4_ HR0_0.out HB.out) | with_reducible first | apply Kd.C_alloc | apply Kd.C_drewN | apply Kd.C_drew)); rintro e w12 ⟨rfl, hb⟩; refine ⟨_, rfl, ?_⟩; replace BK711 := b5_ BK711 hb; replace BK712 := b5_ BK712 hb; replace HB := b4_ HB hb; (try clear hb); have hcz13_0 := c0_ BK711; have hfz13_0 := bF_ BK711.out 0) | ((with_reducible refine gC_ (f := 66) rfl ?_); refine goesL_ (some 12) rfl rfl Tryz.func66 (by kernel_rfl) rfl #[.agg #[.slice A0_0 l0_0.length c0_0]] rfl (by (try simp only [sD_, sE_, sF_]); rfl) ?_; (with_reducible refine (impl_Trie_words.calls k _ _ l0_0 t714 _ ?side1 HC0_0.out A5.out).mono ?_); (case side1 => repeat (first | exact (k4_ HR0_0.out HB.out) | with_reducible first | apply Kd.C_alloc | apply Kd.C_drewN | apply Kd.C_drew)); rintro e w14 ⟨v715, rfl, ho0, hb⟩; refine ⟨_, rfl, ?_⟩; have HO716 := aM_ (k5_ ho0 (bZ_ HB.out)); replace BK711 := b5_ BK711 hb; replace BK712 := b5_ BK712 hb; replace HB := b4_ HB hb; (try clear hb); (try clear ho0)) | ((with_reducible refine gate_builtin (b := .append) (xs := #[.tmp 12, .tmp 14]) rfl ?_); at_builtin; refine Kd.R_append Kd.string (w0 := w) w.heap.size rfl (.tmp 12) (.tmp 14) 49 9 (.string ⟨#[]⟩) 16 rfl Tryz.underlying49 info9 rfl (by decide) (by omega) v715 t714 a1 [.string a1] (fun _ => True) (fun _ => False) rfl rfl ?aP (fun _ hk => hk.elim) ?aF ?aO ?aB ?aS ?aL ?_; (case aP => exact rfl); (case aB => exact HB.out); (case aF => exact (fun _ _ => trivial)); (case aO => exact HO716.out); (case aS => exact (bZ_ HB.out)); (case aL => have := LMc6.out; omega); intro v718 w15 ho hb hg hat; rw [← Ny717.out] at ho; have n0_ := aM_ (blk_grown (g := gb711) (o := .cells #[.slice A0_0 l0_0.length c0_0] 36 (0, 0)) BK711.out hg (k6_ HO716.out BK711.out (by decide))); have n1_ := aM_ (blk_grown (g := gb712) (o := .cells #[.slice none 0 0] 36 (0, 0)) BK712.out hg (k6_ HO716.out BK712.out (by decide))); have n2_ := aM_ (hb); have n3_ := aM_ (ho); clear BK711; clear BK712; clear HB; clear HO716; have BK711 := n0_; have BK712 := n1_; have HB := n2_; have HO719 := n3_; clear n0_ n1_ n2_ n3_; clear ho hb hg hat; obtain ⟨Ao16, co16, eo16⟩ := kS_ HO719.out; subst eo16) | ((with_reducible refine gC_ (f := 61) rfl ?_); refine goesL_ (some 16) rfl rfl Tryz.func61 (by kernel_rfl) rfl #[.slice Ao16 y717.length co16] rfl (by (try simp only [sD_, sE_, sF_]); rfl) ?_; (with_reducible refine (impl_ofWords.calls k _ _ y717 t720 t723 _ ?side1 ?side2 A7.out).mono ?_); (case side1 => repeat (first | exact (kR_ HO719.out).2.2 | with_reducible first | apply Kd.C_alloc | apply Kd.C_drewN | apply Kd.C_drew)); (case side2 => exact (kR_ HO719.out).2.1); rintro e w17 ⟨v721, rfl, ho0, hb⟩; refine ⟨_, rfl, ?_⟩; replace HO719 := k9_ HO719 hb; have HO722 := aM_ (k5_ ho0 (bZ_ HB.out)); replace BK711 := b5_ BK711 hb; replace BK712 := b5_ BK712 hb; replace HB := b4_ HB hb; (try clear hb); (try clear ho0); obtain ⟨Ao18, co18, eo18⟩ := kS_ HO722.out; subst eo18; have hcz19_0 := c0_ BK712; have hfz19_0 := bF_ BK712.out 0))
 refine bodyPost_ret (results_ct rfl _ _ gb712 36 #[.slice Ao18 t720.length co18] (0, 0) _ rfl (by refine bP_ (cs := #[.slice none 0 0]) ?_ 0 _ rfl; exact BK712.out) Tryz.underlying36 rfl (by kernel_rfl)) rfl ?_
 exact ⟨_, by rfl, by exact kM_ (kG_ (kT_ HO722.out BK712.out (by decide))) (fun _ hk => trivial), by repeat with_reducible first | exact HB.out | apply bA_ | apply bN_ | apply bD_ | refine bS_ ?_ (Aside0.out ‹_›)⟩
end Go.Proofs.YtfhffcefpnkllaaGreatDoor.P
