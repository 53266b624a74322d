/-
  Part 4 of the proof that FnExactOpenPressed returns true for every input: the functions that it reaches, each with its contract, and the law.
  Conditions: those of the given statement, no others.
-/
import Derived.Test.YtfhffcefpnkllaaGreatDoorCFnExactOpenPressedW0
import Derived.WalkKit
import Derived.ProofKit
import Derived.OpenShut
import Derived.Deep.Slices
import Derived.Deep.Fields
import Derived.ChangeSame
import Derived.Lib.SmallJoins
import Derived.Sort.Walk0
import Derived.Test.YtfhffcefpnkllaaGreatDoorCFnExactOpenPressed0
import Derived.Test.YtfhffcefpnkllaaGreatDoorCFnExactOpenPressed1
set_option linter.unusedVariables false
set_option linter.unusedSimpArgs false
set_option maxHeartbeats 8000000
set_option maxRecDepth 100000
namespace Go.Proofs.YtfhffcefpnkllaaGreatDoor.P
open Go.RowKit Go.Proofs.YtfhffcefpnkllaaGreatDoorW.PrintWords Go.Proofs.YtfhffcefpnkllaaGreatDoorW.PrintLast Go.Proofs.YtfhffcefpnkllaaGreatDoorW.PrintMore
open Go.Proofs.YtfhffcefpnkllaaGreatDoorW.PrintWords renaming blk_frozen → bF_, blk_cell → bC_, below_set → bS_, blk_below → bB_, below_step → bT_, pw_below_drewN → bN_, below_size → bZ_, below_drew1 → bD_, below_alloc → bA_, blk_far → bR_, gate_callee → gC_, gate_dst → gD_, box_event → bE_, blk_drew → b1_, blk_put → bP_, blk_drewN → b2_, blk_alloc → b3_, blk_lt → bL_, cell_far → cF_
open Go.Proofs.YtfhffcefpnkllaaGreatDoorW.PrintLast renaming any_of → aO_, i64_w → i6_, i32_w → i3_, take_ofW → tW_
open Go.Proofs.YtfhffcefpnkllaaGreatDoorW.PrintWords.Kd renaming R_below → kB_, R_mono → kM_, R_far → kF_, R_reads' → kR_, R_types → kT_, R_slice → kS_, R_celln → kC_, R_alloc → k1_, R_drewN → k2_, R_drew → k3_, C_below → k4_, R_lower → k5_, R_ne → k6_, own_blk → k7_
open Go.Proofs.YtfhffcefpnkllaaGreatDoorW.PrintWords.LeO renaming none → l0_, bind → l1_, ite → l2_, refl → l3_
open World renaming block_lt_of_cell? → wB_
open _root_.Option renaming bind_eq_some_iff → oB_
open _root_.ByteArray renaming empty → eB_
open List renaming setIfInBounds_toArray → sA_, set_cons_zero → sB_, set_cons_succ → sC_, map_toArray → sD_, map_cons → sE_, map_nil → sF_, length_drop → sG_, length_take → sH_
open Bool renaming true → ty, false → fy
open Aside0 renaming mk → aM_
attribute [local go_sem] max2_int min2_int max_two min_two max_three min_three max_four min_four
def laws_markText.l0 : Nat → Int → ByteArray → Option (ByteArray)
 | 0, _, _ => none
 | k + 1, x0, x3 => if x0 > 0 then ((some (([(wrap64 (48 + (Int.tmod x0 10))) % 256] : List Int) : List Int)).bind fun y530 => (if (strOfNums y530).size + x3.size ≤ 9223372036854775807 then (laws_markText.l0 k (wrap64 (Int.tdiv x0 10)) ((strOfNums y530) ++ x3)) else (none))) else (if 1 + x3.size ≤ 9223372036854775807 then (some ((⟨#[109]⟩ : ByteArray) ++ x3)) else (none))
def laws_markText.f (k : Nat) (a0 : Int) : Option (ByteArray) := if a0 ≤ 0 then (some (⟨#[109, 48]⟩ : ByteArray)) else (laws_markText.l0 k a0 (⟨#[]⟩ : ByteArray))
theorem laws_markText.mono_l : ∀ k, (∀ y0 y1, LeO (laws_markText.l0 k y0 y1) (laws_markText.l0 (k + 1) y0 y1))
 | 0 => fun _ _ r h => by simp [laws_markText.l0] at h
 | k + 1 => by
  have ih0 := laws_markText.mono_l k
  ·
   intro y0 y1
   unfold laws_markText.l0
   repeat' with_reducible first | exact ih0 _ _ | exact l3_ _ | exact l0_ _ | refine l2_ ?_ ?_ | refine l1_ ?_ (fun _ => ?_)
theorem laws_markText.mono : ∀ a0 k, LeO (laws_markText.f k a0) (laws_markText.f (k + 1) a0) := by
 intro a0 k
 have ih0 := laws_markText.mono_l k
 unfold laws_markText.f
 repeat' with_reducible first | exact ih0 _ _ | exact l3_ _ | exact l0_ _ | refine l2_ ?_ ?_ | refine l1_ ?_ (fun _ => ?_)
theorem laws_markText.calls (k : Nat) (a0 : Int) (r : ByteArray) (w : World) (h : laws_markText.f k a0 = some r) :
  Calls Tryz.prog 70 #[.int .i64 a0] w fun e w' => e = .returned (.string r) ∧ Below w.heap.size w w' := by
 have HB := aM_ (Below.refl w.heap.size w)
 have H : (if a0 ≤ 0 then (some (⟨#[109, 48]⟩ : ByteArray)) else (laws_markText.l0 k a0 (⟨#[]⟩ : ByteArray))) = some r := h
 clear h
 by_cases c2 : a0 ≤ 0
 ·
  rw [if_pos c2] at H
  have c2b0 := decide_eq_true c2
  clear c2
  obtain rfl := Option.some.inj H
  go_enter Tryz.func70, Tryz.ntmps70
  go_wp2
  go_ret
  exact ⟨by rfl, by exact HB.out⟩
 ·
  rw [if_neg c2] at H
  have c2b0 := decide_eq_false c2
  clear c2
  have H' := aM_ H
  clear H
  go_enter Tryz.func70, Tryz.ntmps70
  go_wp2
  go_loopg [0, 3] k (fun kq v0 v3 w' => ∃ (x0_1 : Int) (x3_1 : ByteArray), v0 = .int .i64 x0_1 ∧ v3 = .string x3_1 ∧ Aside0 (laws_markText.l0 kq x0_1 x3_1 = some r) ∧ Aside0 (kq ≤ k) ∧ Aside0 (Below w.heap.size w w'))
  case atStart => exact ⟨(a0), ((⟨#[]⟩ : ByteArray)), (by rfl), (by rfl), H', ⟨Nat.le_refl _⟩, ⟨HB.out⟩⟩
  case round =>
   clear H'
   try clear c2b0
   try clear p2
   obtain ⟨x0_1, x3_1, rfl, rfl, HA, HK1, HB⟩ := hrel
   cases gk with
   | zero => exact absurd HA.out (by simp [laws_markText.l0])
   | succ k1 =>
    have H := HA.out
    clear HA
    simp only [laws_markText.l0] at H
    by_cases c3 : x0_1 > 0
    ·
     rw [if_pos c3] at H
     have c3b0 := decide_eq_true c3
     clear c3
     obtain ⟨y530, hy530⟩ : ∃ y_ : List Int, y_ = (([(wrap64 (48 + (Int.tmod x0_1 10))) % 256] : List Int)) := ⟨_, rfl⟩
     replace H : (if (strOfNums y530).size + x3_1.size ≤ 9223372036854775807 then (laws_markText.l0 k1 (wrap64 (Int.tdiv x0_1 10)) ((strOfNums y530) ++ x3_1)) else (none)) = some r := by first | (rw [hy530]; with_reducible exact H) | (have H2_ := (Option.bind_some _ _).symm.trans H; rw [hy530]; with_reducible exact H2_) | (have H2_ := (Option.bind_some _ _).symm.trans H; with_reducible exact H2_) | with_reducible exact H | (rw [hy530]; exact H) | exact H
     have Ny530 := aM_ hy530
     clear hy530
     by_cases c4 : (strOfNums y530).size + x3_1.size ≤ 9223372036854775807
     ·
      rw [if_pos c4] at H
      have c4b0 := eq_true c4
      have c4b1 := decide_eq_true c4
      try have c4b2 : (9223372036854775807 < (strOfNums y530).size + x3_1.size) = False := eq_false (Nat.not_lt.2 c4)
      have H' := aM_ H
      clear H
      go_wp2_with (first | ((with_reducible refine gD_ (N := 12) rfl ?_); refine Kd.R_lit (Kd.int .u8) _ 5 ?hg (N := 12) ?hd (xs := ([(wrap64 (48 + (Int.tmod x0_1 10))) % 256] : List Int)) (inner := [.int .u8 ((wrap64 (48 + (Int.tmod x0_1 10))) % 256)]) (ok := fun _ => True) (okp := fun _ => True) ?hr ?hp (fun _ hk => hk) trivial (Below.refl _ _) (Nat.le_refl _) (by simp) ?_; (case hd => rfl); (case hg => rfl); (case hr => (go_simp; done)); (case hp => exact (Reps.one (show Kd.M (Kd.int .u8) _ _ _ ((wrap64 (48 + (Int.tmod x0_1 10))) % 256) [.int .u8 ((wrap64 (48 + (Int.tmod x0_1 10))) % 256)] from rfl) (Reps.none _ _))); intro v531 w5 ho6 hb hg_ hnew_; clear hg_ hnew_; (rw [← Ny530.out] at ho6); have HO532 := aM_ (k5_ ho6 (bZ_ HB.out)); replace HB := aM_ (bT_ HB.out hb); clear hb ho6; have hcv7 := own_string (P := Tryz.prog) Tryz.underlying93 Tryz.underlying5 Tryz.underlying9 (Kd.own_of_R HO532.out)))
      go_roundg k1
      case measure => have := HK1.out; omega
      case rel => exact ⟨(wrap64 (Int.tdiv x0_1 10)), ((strOfNums y530) ++ x3_1), (by rfl), (by rfl), H', ⟨by have := HK1.out; omega⟩, ⟨HB.out⟩⟩
     ·
      rw [if_neg c4] at H
      exact absurd H (by simp)
    ·
     rw [if_neg c3] at H
     have c3b0 := decide_eq_false c3
     clear c3
     by_cases c8 : 1 + x3_1.size ≤ 9223372036854775807
     ·
      rw [if_pos c8] at H
      have c8b0 := eq_true c8
      have c8b1 := decide_eq_true c8
      try have c8b2 : (9223372036854775807 < 1 + x3_1.size) = False := eq_false (Nat.not_lt.2 c8)
      obtain rfl := Option.some.inj H
      go_wp2
      go_ret
      exact ⟨by rfl, by exact HB.out⟩
     ·
      rw [if_neg c8] at H
      exact absurd H (by simp)
def laws_markBranchS.l0 : Nat → List (S60) → Int → Int → Option (Int × (List (S60)))
 | 0, _, _, _ => none
 | k + 1, x0, x1, x5 => if x5 < (x0.length : Int) then ((laws_markText.f k x1).bind fun t533 => (if 0 ≤ x5 then ((some (x0.set (x5 : Int).toNat (⟨t533, (rd_T60 x0 x5).f1, (rd_T60 x0 x5).f2⟩ : S60) : List (S60))).bind fun y534 => ((some (y534.set (x5 : Int).toNat (⟨(rd_T60 y534 x5).f0, wrap64 (x1 + 1), (rd_T60 y534 x5).f2⟩ : S60) : List (S60))).bind fun y535 => (laws_markBranchS.l0 k (y535.set (x5 : Int).toNat (⟨(rd_T60 y535 x5).f0, (rd_T60 y535 x5).f1, ((Int.tmod (wrap64 ((wrap64 (x1 + 1)) + 1)) 3) == 0)⟩ : S60)) (wrap64 ((wrap64 ((wrap64 (x1 + 1)) + 1)) + 1)) (wrap64 (x5 + 1))))) else (none))) else (some (x1, x0))
def laws_markBranchS.f (k : Nat) (l0 : List (S60)) (a1 : Int) : Option (Int × (List (S60))) := laws_markBranchS.l0 k l0 a1 0
theorem laws_markBranchS.mono_l : ∀ k, (∀ y0 y1 y2, LeO (laws_markBranchS.l0 k y0 y1 y2) (laws_markBranchS.l0 (k + 1) y0 y1 y2))
 | 0 => fun _ _ _ r h => by simp [laws_markBranchS.l0] at h
 | k + 1 => by
  have ih0 := laws_markBranchS.mono_l k
  ·
   intro y0 y1 y2
   unfold laws_markBranchS.l0
   repeat' with_reducible first | exact ih0 _ _ _ | exact laws_markText.mono _ _ | exact l3_ _ | exact l0_ _ | refine l2_ ?_ ?_ | refine l1_ ?_ (fun _ => ?_)
theorem laws_markBranchS.mono : ∀ a0 a1 k, LeO (laws_markBranchS.f k a0 a1) (laws_markBranchS.f (k + 1) a0 a1) := by
 intro a0 a1 k
 have ih0 := laws_markBranchS.mono_l k
 unfold laws_markBranchS.f
 repeat' with_reducible first | exact ih0 _ _ _ | exact laws_markText.mono _ _ | exact l3_ _ | exact l0_ _ | refine l2_ ?_ ?_ | refine l1_ ?_ (fun _ => ?_)
theorem laws_markBranchS.calls (k : Nat) (P0_ : Nat → Prop) (u9000_ : Value) (l0 : List (S60)) (a1 : Int) (r1 : Int) (r2 : List (S60)) (w0 w : World) (hB : Below w0.heap.size w0 w) (ho0 : Kd.R k60 60 w w0.heap.size P0_ u9000_ l0) (h : laws_markBranchS.f k l0 a1 = some (r1, r2)) :
  Calls Tryz.prog 40 #[u9000_, .int .i64 a1] w fun e w' => e = .returned (.int .i64 r1) ∧ Kd.R k60 60 w' w0.heap.size (fun k_ => (P0_ k_ ∨ w.heap.size ≤ k_)) u9000_ r2 ∧ Below w0.heap.size w0 w' ∧ Kept w w' (fun k_ => P0_ k_) := by
 have HO0 := aM_ (show Kd.R k60 60 w w0.heap.size (fun k_ => (P0_ k_ ∨ w.heap.size ≤ k_)) u9000_ l0 from kM_ ho0 (fun k_ hk => (.inl hk)))
 have HK := aM_ (Kept.refl w (fun k_ => P0_ k_))
 have HW0 := aM_ hB.size
 have HB := aM_ hB
 clear hB
 have H : (laws_markBranchS.l0 k l0 a1 0) = some (r1, r2) := h
 clear h
 have H' := aM_ H
 clear H
 go_enter Tryz.func40, Tryz.ntmps40
 go_wp2
 go_loopg [1, 5] k (fun kq v1 v5 w' => ∃ (x0_1 : List (S60)) (x1_1 : Int) (x5_1 : Int), v1 = .int .i64 x1_1 ∧ v5 = .int .i64 x5_1 ∧ Aside0 (laws_markBranchS.l0 kq x0_1 x1_1 x5_1 = some (r1, r2)) ∧ Aside0 (kq ≤ k) ∧ Aside0 (Kd.R k60 60 w' w0.heap.size (fun k_ => (P0_ k_ ∨ w.heap.size ≤ k_)) u9000_ x0_1) ∧ Aside0 (Kept w w' (fun k_ => P0_ k_)) ∧ Aside0 (Below w0.heap.size w0 w'))
 case atStart => exact ⟨(l0), (a1), (0), (by rfl), (by rfl), H', ⟨Nat.le_refl _⟩, ⟨HO0.out⟩, ⟨by repeat (first | (with_reducible first | exact HK.out | apply Kept.alloc | apply Kept.drewN | apply Kept.drew) | exact HK.out)⟩, ⟨HB.out⟩⟩
 case round =>
  clear H'
  try clear p2
  obtain ⟨x0_1, x1_1, x5_1, rfl, rfl, HA, HK1, HO_0, HK, HB⟩ := hrel
  cases gk with
  | zero => exact absurd HA.out (by simp [laws_markBranchS.l0])
  | succ k1 =>
   have H := HA.out
   clear HA
   simp only [laws_markBranchS.l0] at H
   by_cases c3 : x5_1 < (x0_1.length : Int)
   ·
    rw [if_pos c3] at H
    have c3b0 := decide_eq_true c3
    clear c3
    replace H := oB_.mp H
    obtain ⟨t533, A40, H⟩ := H
    try dsimp only at H
    have A4 := aM_ A40
    clear A40
    by_cases c5 : 0 ≤ x5_1
    ·
     rw [if_pos c5] at H
     have c5b0 := decide_eq_true c5
     clear c5
     obtain ⟨y534, hy534⟩ : ∃ y_ : List (S60), y_ = (x0_1.set (x5_1 : Int).toNat (⟨t533, (rd_T60 x0_1 x5_1).f1, (rd_T60 x0_1 x5_1).f2⟩ : S60)) := ⟨_, rfl⟩
     replace H : ((some (y534.set (x5_1 : Int).toNat (⟨(rd_T60 y534 x5_1).f0, wrap64 (x1_1 + 1), (rd_T60 y534 x5_1).f2⟩ : S60) : List (S60))).bind fun y535 => (laws_markBranchS.l0 k1 (y535.set (x5_1 : Int).toNat (⟨(rd_T60 y535 x5_1).f0, (rd_T60 y535 x5_1).f1, ((Int.tmod (wrap64 ((wrap64 (x1_1 + 1)) + 1)) 3) == 0)⟩ : S60)) (wrap64 ((wrap64 ((wrap64 (x1_1 + 1)) + 1)) + 1)) (wrap64 (x5_1 + 1)))) = some (r1, r2) := by first | (rw [hy534]; with_reducible exact H) | (have H2_ := (Option.bind_some _ _).symm.trans H; rw [hy534]; with_reducible exact H2_) | (have H2_ := (Option.bind_some _ _).symm.trans H; with_reducible exact H2_) | with_reducible exact H | (rw [hy534]; exact H) | exact H
     have Ny534 := aM_ hy534
     clear hy534
     obtain ⟨y535, hy535⟩ : ∃ y_ : List (S60), y_ = (y534.set (x5_1 : Int).toNat (⟨(rd_T60 y534 x5_1).f0, wrap64 (x1_1 + 1), (rd_T60 y534 x5_1).f2⟩ : S60)) := ⟨_, rfl⟩
     replace H : (laws_markBranchS.l0 k1 (y535.set (x5_1 : Int).toNat (⟨(rd_T60 y535 x5_1).f0, (rd_T60 y535 x5_1).f1, ((Int.tmod (wrap64 ((wrap64 (x1_1 + 1)) + 1)) 3) == 0)⟩ : S60)) (wrap64 ((wrap64 ((wrap64 (x1_1 + 1)) + 1)) + 1)) (wrap64 (x5_1 + 1))) = some (r1, r2) := by first | (rw [hy535]; with_reducible exact H) | (have H2_ := (Option.bind_some _ _).symm.trans H; rw [hy535]; with_reducible exact H2_) | (have H2_ := (Option.bind_some _ _).symm.trans H; with_reducible exact H2_) | with_reducible exact H | (rw [hy535]; exact H) | exact H
     have Ny535 := aM_ hy535
     clear hy535
     obtain ⟨y536, hy536⟩ : ∃ y_ : List (S60), y_ = (y535.set (x5_1 : Int).toNat (⟨(rd_T60 y535 x5_1).f0, (rd_T60 y535 x5_1).f1, ((Int.tmod (wrap64 ((wrap64 (x1_1 + 1)) + 1)) 3) == 0)⟩ : S60)) := ⟨_, rfl⟩
     replace H : (laws_markBranchS.l0 k1 y536 (wrap64 ((wrap64 ((wrap64 (x1_1 + 1)) + 1)) + 1)) (wrap64 (x5_1 + 1))) = some (r1, r2) := by first | (rw [hy536]; with_reducible exact H) | (have H2_ := (Option.bind_some _ _).symm.trans H; rw [hy536]; with_reducible exact H2_) | (have H2_ := (Option.bind_some _ _).symm.trans H; with_reducible exact H2_) | with_reducible exact H | (rw [hy536]; exact H) | exact H
     have Ny536 := aM_ hy536
     clear hy536
     have H' := aM_ H
     clear H
     obtain ⟨Ao9, co9, eo9⟩ := kS_ HO_0.out
     subst eo9
     go_wp2_with (first | ((with_reducible refine gC_ (f := 70) rfl ?_); refine goesL_ (some 15) rfl rfl Tryz.func70 (by kernel_rfl) rfl #[.int .i64 x1_1] rfl (by (try simp only [sD_, sE_, sF_]); rfl) ?_; (with_reducible refine (laws_markText.calls k1 x1_1 t533 _ A4.out).mono ?_); rintro e w10 ⟨rfl, hb⟩; refine ⟨_, rfl, ?_⟩; replace HO_0 := aM_ (kB_ HO_0.out hb); replace HK := aM_ (Kept.below (S := (fun k_ => P0_ k_)) (by repeat (first | (with_reducible first | exact HK.out | apply Kept.alloc | apply Kept.drewN | apply Kept.drew) | exact HK.out)) hb); replace HB := aM_ (bT_ HB.out hb); (try clear hb); have p6 : 0 ≤ (x5_1 : Int) := of_decide_eq_true ‹_›; have q6 : (x5_1 : Int) < ((x0_1.length : Int) : Int) := of_decide_eq_true ‹_›; obtain ⟨go6, co6, eo6, gb6, gl6, cl6, HG6⟩ := Kd.R_form HO_0.out (by omega); (cases eo6); have GB6 := aM_ gb6; have GG6 := aM_ HG6; clear gb6 gl6 HG6; have HMgo6 := aM_ (show (P0_ go6 ∨ w.heap.size ≤ go6) from (HO_0.out.1 _ rfl)); obtain ⟨ce6, hcl6, hM6, hcc6, hfr6⟩ := Kd.R_elem HO_0.out z60 (x5_1 : Int) p6 q6; obtain rfl := k60_openM hM6; have hx6_0 : w10.cell? ⟨go6, (x5_1 : Int).toNat * 3, none⟩ = some (.string ((rd_T60 x0_1 x5_1).f0)) := hcc6 0 _ rfl; have hx6_1 : w10.cell? ⟨go6, (x5_1 : Int).toNat * 3 + 1, none⟩ = some (.int .i64 ((rd_T60 x0_1 x5_1).f1)) := hcc6 1 _ rfl; have hx6_2 : w10.cell? ⟨go6, (x5_1 : Int).toNat * 3 + 2, none⟩ = some (.bool ((rd_T60 x0_1 x5_1).f2)) := hcc6 2 _ rfl; have hf6_0 : w10.frozen? ⟨go6, (x5_1 : Int).toNat * 3, none⟩ = false := hfr6 0; have hf6_1 : w10.frozen? ⟨go6, (x5_1 : Int).toNat * 3 + 1, none⟩ = false := hfr6 1; have hf6_2 : w10.frozen? ⟨go6, (x5_1 : Int).toNat * 3 + 2, none⟩ = false := hfr6 2; clear hcl6 hcc6 hfr6 hM6; replace p6 := eq_true p6; replace q6 := eq_true q6; have HX11 := aM_ (show Kd.R k60 60 w10 w0.heap.size (fun k_ => (P0_ k_ ∨ w.heap.size ≤ k_)) (.slice (some ⟨go6, 0, none⟩) x0_1.length co9) x0_1 from HO_0.out); obtain ⟨ce11, hcl11, hM11, hcc11, hfr11⟩ := Kd.R_elem HX11.out z60 (x5_1 : Int) (of_decide_eq_true ‹_›) (by have h_ : (x5_1 : Int) < ((x0_1.length : Int) : Int) := of_decide_eq_true ‹_›; exact h_); obtain rfl := k60_openM hM11; have HP11 := Kd.R_seg HX11.out (x5_1 : Int) (of_decide_eq_true ‹_›) (by have h_ : (x5_1 : Int) < ((x0_1.length : Int) : Int) := of_decide_eq_true ‹_›; exact h_) (seg := [.string t533]) (j := 0) hcl11 hcc11 (show 1 ≤ 3 from by decide) (x' := (⟨t533, (rd_T60 x0_1 x5_1).f1, (rd_T60 x0_1 x5_1).f2⟩ : S60)) (k60_mkM _ _ _ (⟨t533, (rd_T60 x0_1 x5_1).f1, (rd_T60 x0_1 x5_1).f2⟩ : S60) ) (fun _ hk => hk); have hx11_0 := hcc11 0 _ rfl; (try simp only [show (k60).sz = 3 from rfl, Nat.mul_one, Nat.add_zero] at hx11_0); have hf11_0 := hfr11 0; (try simp only [show (k60).sz = 3 from rfl, Nat.mul_one, Nat.add_zero] at hf11_0); clear hcl11 hcc11 hfr11 hM11) | ((with_reducible refine gate_store (t := 9) (p := 17) rfl ?_); refine store_event (t := 9) (p := 17) (v := ?vo_w12) (w1 := (w10.setCell ⟨go6, (x5_1 : Int).toNat * 3, none⟩ (.string t533))) ?hg ?ho ?hn ?hr ?_; (case ho => rfl); (case hg => rfl); (case hn => rfl); (case hr => (go_simp; done)); intro w12 hw; have hg : w10.grownBy w12 (some go6) := (by rw [hw]; exact HP11.2); have hp_ : Kd.R k60 60 w12 w0.heap.size (fun k_ => (P0_ k_ ∨ w.heap.size ≤ k_)) (.slice (some ⟨go6, 0, none⟩) x0_1.length co9) y534 := (by rw [hw, Ny534.out]; exact HP11.1); clear HP11; replace HB := aM_ ((by rw [hw]; exact bS_ (HB.out) GB6.out : Below w0.heap.size w0 w12)); replace HK := aM_ (Kept.of_grown (S := (fun k_ => P0_ k_)) hg (by repeat (first | (with_reducible first | exact HK.out | apply Kept.alloc | apply Kept.drewN | apply Kept.drew) | exact HK.out)) (fun k_ e_ => (HO_0.out.1 k_ e_))); replace HO_0 := aM_ (hp_); clear hg hw hp_; have p7 : 0 ≤ (x5_1 : Int) := of_decide_eq_true ‹_›; have q7 : (x5_1 : Int) < ((x0_1.length : Int) : Int) := of_decide_eq_true ‹_›; obtain ⟨ce7, hcl7, hM7, hcc7, hfr7⟩ := Kd.R_elem HO_0.out z60 (x5_1 : Int) p7 q7; obtain rfl := k60_openM hM7; have hx7_0 : w12.cell? ⟨go6, (x5_1 : Int).toNat * 3, none⟩ = some (.string ((rd_T60 y534 x5_1).f0)) := hcc7 0 _ rfl; have hx7_1 : w12.cell? ⟨go6, (x5_1 : Int).toNat * 3 + 1, none⟩ = some (.int .i64 ((rd_T60 y534 x5_1).f1)) := hcc7 1 _ rfl; have hx7_2 : w12.cell? ⟨go6, (x5_1 : Int).toNat * 3 + 2, none⟩ = some (.bool ((rd_T60 y534 x5_1).f2)) := hcc7 2 _ rfl; have hf7_0 : w12.frozen? ⟨go6, (x5_1 : Int).toNat * 3, none⟩ = false := hfr7 0; have hf7_1 : w12.frozen? ⟨go6, (x5_1 : Int).toNat * 3 + 1, none⟩ = false := hfr7 1; have hf7_2 : w12.frozen? ⟨go6, (x5_1 : Int).toNat * 3 + 2, none⟩ = false := hfr7 2; clear hcl7 hcc7 hfr7 hM7; replace p7 := eq_true p7; replace q7 := eq_true q7; have HX13 := aM_ (show Kd.R k60 60 w12 w0.heap.size (fun k_ => (P0_ k_ ∨ w.heap.size ≤ k_)) (.slice (some ⟨go6, 0, none⟩) x0_1.length co9) y534 from HO_0.out); obtain ⟨ce13, hcl13, hM13, hcc13, hfr13⟩ := Kd.R_elem HX13.out z60 (x5_1 : Int) (of_decide_eq_true ‹_›) (by have h_ : (x5_1 : Int) < ((x0_1.length : Int) : Int) := of_decide_eq_true ‹_›; exact h_); obtain rfl := k60_openM hM13; have HP13 := Kd.R_seg HX13.out (x5_1 : Int) (of_decide_eq_true ‹_›) (by have h_ : (x5_1 : Int) < ((x0_1.length : Int) : Int) := of_decide_eq_true ‹_›; exact h_) (seg := [.int .i64 (wrap64 (x1_1 + 1))]) (j := 1) hcl13 hcc13 (show 2 ≤ 3 from by decide) (x' := (⟨(rd_T60 y534 x5_1).f0, wrap64 (x1_1 + 1), (rd_T60 y534 x5_1).f2⟩ : S60)) (k60_mkM _ _ _ (⟨(rd_T60 y534 x5_1).f0, wrap64 (x1_1 + 1), (rd_T60 y534 x5_1).f2⟩ : S60) ) (fun _ hk => hk); have hx13_1 := hcc13 1 _ rfl; (try simp only [show (k60).sz = 3 from rfl, Nat.mul_one, Nat.add_zero] at hx13_1); have hf13_1 := hfr13 1; (try simp only [show (k60).sz = 3 from rfl, Nat.mul_one, Nat.add_zero] at hf13_1); clear hcl13 hcc13 hfr13 hM13) | ((with_reducible refine gate_store (t := 3) (p := 24) rfl ?_); refine store_event (t := 3) (p := 24) (v := ?vo_w14) (w1 := (w12.setCell ⟨go6, (x5_1 : Int).toNat * 3 + 1, none⟩ (.int .i64 (wrap64 (x1_1 + 1))))) ?hg ?ho ?hn ?hr ?_; (case ho => rfl); (case hg => rfl); (case hn => rfl); (case hr => (go_simp; done)); intro w14 hw; have hg : w12.grownBy w14 (some go6) := (by rw [hw]; exact HP13.2); have hp_ : Kd.R k60 60 w14 w0.heap.size (fun k_ => (P0_ k_ ∨ w.heap.size ≤ k_)) (.slice (some ⟨go6, 0, none⟩) x0_1.length co9) y535 := (by rw [hw, Ny535.out]; exact HP13.1); clear HP13; replace HB := aM_ ((by rw [hw]; exact bS_ (HB.out) GB6.out : Below w0.heap.size w0 w14)); replace HK := aM_ (Kept.of_grown (S := (fun k_ => P0_ k_)) hg (by repeat (first | (with_reducible first | exact HK.out | apply Kept.alloc | apply Kept.drewN | apply Kept.drew) | exact HK.out)) (fun k_ e_ => (HO_0.out.1 k_ e_))); replace HO_0 := aM_ (hp_); clear hg hw hp_; have p8 : 0 ≤ (x5_1 : Int) := of_decide_eq_true ‹_›; have q8 : (x5_1 : Int) < ((x0_1.length : Int) : Int) := of_decide_eq_true ‹_›; obtain ⟨ce8, hcl8, hM8, hcc8, hfr8⟩ := Kd.R_elem HO_0.out z60 (x5_1 : Int) p8 q8; obtain rfl := k60_openM hM8; have hx8_0 : w14.cell? ⟨go6, (x5_1 : Int).toNat * 3, none⟩ = some (.string ((rd_T60 y535 x5_1).f0)) := hcc8 0 _ rfl; have hx8_1 : w14.cell? ⟨go6, (x5_1 : Int).toNat * 3 + 1, none⟩ = some (.int .i64 ((rd_T60 y535 x5_1).f1)) := hcc8 1 _ rfl; have hx8_2 : w14.cell? ⟨go6, (x5_1 : Int).toNat * 3 + 2, none⟩ = some (.bool ((rd_T60 y535 x5_1).f2)) := hcc8 2 _ rfl; have hf8_0 : w14.frozen? ⟨go6, (x5_1 : Int).toNat * 3, none⟩ = false := hfr8 0; have hf8_1 : w14.frozen? ⟨go6, (x5_1 : Int).toNat * 3 + 1, none⟩ = false := hfr8 1; have hf8_2 : w14.frozen? ⟨go6, (x5_1 : Int).toNat * 3 + 2, none⟩ = false := hfr8 2; clear hcl8 hcc8 hfr8 hM8; replace p8 := eq_true p8; replace q8 := eq_true q8; have HX15 := aM_ (show Kd.R k60 60 w14 w0.heap.size (fun k_ => (P0_ k_ ∨ w.heap.size ≤ k_)) (.slice (some ⟨go6, 0, none⟩) x0_1.length co9) y535 from HO_0.out); obtain ⟨ce15, hcl15, hM15, hcc15, hfr15⟩ := Kd.R_elem HX15.out z60 (x5_1 : Int) (of_decide_eq_true ‹_›) (by have h_ : (x5_1 : Int) < ((x0_1.length : Int) : Int) := of_decide_eq_true ‹_›; exact h_); obtain rfl := k60_openM hM15; have HP15 := Kd.R_seg HX15.out (x5_1 : Int) (of_decide_eq_true ‹_›) (by have h_ : (x5_1 : Int) < ((x0_1.length : Int) : Int) := of_decide_eq_true ‹_›; exact h_) (seg := [.bool ((Int.tmod (wrap64 ((wrap64 (x1_1 + 1)) + 1)) 3) == 0)]) (j := 2) hcl15 hcc15 (show 3 ≤ 3 from by decide) (x' := (⟨(rd_T60 y535 x5_1).f0, (rd_T60 y535 x5_1).f1, ((Int.tmod (wrap64 ((wrap64 (x1_1 + 1)) + 1)) 3) == 0)⟩ : S60)) (k60_mkM _ _ _ (⟨(rd_T60 y535 x5_1).f0, (rd_T60 y535 x5_1).f1, ((Int.tmod (wrap64 ((wrap64 (x1_1 + 1)) + 1)) 3) == 0)⟩ : S60) ) (fun _ hk => hk); have hx15_2 := hcc15 2 _ rfl; (try simp only [show (k60).sz = 3 from rfl, Nat.mul_one, Nat.add_zero] at hx15_2); have hf15_2 := hfr15 2; (try simp only [show (k60).sz = 3 from rfl, Nat.mul_one, Nat.add_zero] at hf15_2); clear hcl15 hcc15 hfr15 hM15) | ((with_reducible refine gate_store (t := 4) (p := 33) rfl ?_); refine store_event (t := 4) (p := 33) (v := ?vo_w16) (w1 := (w14.setCell ⟨go6, (x5_1 : Int).toNat * 3 + 2, none⟩ (.bool ((Int.tmod (wrap64 ((wrap64 (x1_1 + 1)) + 1)) 3) == 0)))) ?hg ?ho ?hn ?hr ?_; (case ho => rfl); (case hg => rfl); (case hn => rfl); (case hr => (go_simp; done)); intro w16 hw; have hg : w14.grownBy w16 (some go6) := (by rw [hw]; exact HP15.2); have hp_ : Kd.R k60 60 w16 w0.heap.size (fun k_ => (P0_ k_ ∨ w.heap.size ≤ k_)) (.slice (some ⟨go6, 0, none⟩) x0_1.length co9) y536 := (by rw [hw, Ny536.out]; exact HP15.1); clear HP15; replace HB := aM_ ((by rw [hw]; exact bS_ (HB.out) GB6.out : Below w0.heap.size w0 w16)); replace HK := aM_ (Kept.of_grown (S := (fun k_ => P0_ k_)) hg (by repeat (first | (with_reducible first | exact HK.out | apply Kept.alloc | apply Kept.drewN | apply Kept.drew) | exact HK.out)) (fun k_ e_ => (HO_0.out.1 k_ e_))); replace HO_0 := aM_ (hp_); clear hg hw hp_))
     go_roundg k1
     case measure => have := HK1.out; omega
     case rel => exact ⟨(y536), (wrap64 ((wrap64 ((wrap64 (x1_1 + 1)) + 1)) + 1)), (wrap64 (x5_1 + 1)), (by rfl), (by rfl), H', ⟨by have := HK1.out; omega⟩, ⟨HO_0.out⟩, ⟨by repeat (first | (with_reducible first | exact HK.out | apply Kept.alloc | apply Kept.drewN | apply Kept.drew) | exact HK.out)⟩, ⟨HB.out⟩⟩
    ·
     rw [if_neg c5] at H
     exact absurd H (by simp)
   ·
    rw [if_neg c3] at H
    have c3b0 := decide_eq_false c3
    clear c3
    simp only [Option.some.injEq, Prod.mk.injEq] at H
    obtain ⟨rfl, rfl⟩ := H
    obtain ⟨Ao17, co17, eo17⟩ := kS_ HO_0.out
    subst eo17
    go_wp2
    go_ret
    exact ⟨by rfl, by exact HO_0.out, by exact HB.out, by repeat (first | (with_reducible first | exact HK.out | apply Kept.alloc | apply Kept.drewN | apply Kept.drew) | exact HK.out)⟩
def laws_markPressed.f (k : Nat) (l0_0 : List (S60)) (a1 : Int) : Option (Int × (List (S60))) := (laws_markBranchS.f k l0_0 a1).bind fun bt538 => (some (bt538.1, bt538.2))
theorem laws_markPressed.mono : ∀ a0 a1 k, LeO (laws_markPressed.f k a0 a1) (laws_markPressed.f (k + 1) a0 a1) := by
 intro a0 a1 k
 unfold laws_markPressed.f
 repeat' with_reducible first | exact laws_markBranchS.mono _ _ _ | exact l3_ _ | exact l0_ _ | refine l2_ ?_ ?_ | refine l1_ ?_ (fun _ => ?_)
theorem laws_markPressed.calls (k : Nat) (P0_0_ : Nat → Prop) (u9000_ : Value) (l0_0 : List (S60)) (a1 : Int) (r1 : Int) (r2 : List (S60)) (w0 w : World) (hB : Below w0.heap.size w0 w) (ho0_0 : Kd.R k60 60 w w0.heap.size P0_0_ u9000_ l0_0) (h : laws_markPressed.f k l0_0 a1 = some (r1, r2)) :
  Calls Tryz.prog 16 #[.agg #[u9000_], .int .i64 a1] w fun e w' => e = .returned (.int .i64 r1) ∧ Kd.R k60 60 w' w0.heap.size (fun k_ => (P0_0_ k_ ∨ w.heap.size ≤ k_)) u9000_ r2 ∧ Below w0.heap.size w0 w' ∧ Kept w w' (fun k_ => P0_0_ k_) := by
 have hu30 := Tryz.underlying30
 have HO0_0 := aM_ (show Kd.R k60 60 w w0.heap.size (fun k_ => (P0_0_ k_ ∨ w.heap.size ≤ k_)) u9000_ l0_0 from kM_ ho0_0 (fun k_ hk => (.inl hk)))
 have HK := aM_ (Kept.refl w (fun k_ => P0_0_ k_))
 have HW0 := aM_ hB.size
 have HB := aM_ hB
 clear hB
 have H : ((laws_markBranchS.f k l0_0 a1).bind fun bt538 => (some (bt538.1, bt538.2))) = some (r1, r2) := h
 clear h
 replace H := oB_.mp H
 obtain ⟨⟨t538, t539⟩, A30, H⟩ := H
 try dsimp only at H
 have A3 := aM_ A30
 clear A30
 simp only [Option.some.injEq, Prod.mk.injEq] at H
 obtain ⟨rfl, rfl⟩ := H
 obtain ⟨Ao4, co4, eo4⟩ := kS_ HO0_0.out
 subst eo4
 go_enter Tryz.func16, Tryz.ntmps16
 go_wp2_with (first | ((with_reducible refine gD_ (N := 2) rfl ?_); refine bE_ ?hg (N := 2) ?hd (cs := #[.slice Ao4 l0_0.length co4]) (t := 30) ?hr ?_; (case hd => rfl); (case hg => rfl); (case hr => (go_simp; done)); intro gb537 hg w5 hbox hb; replace HO0_0 := aM_ (kB_ HO0_0.out hb); have BK537 := aM_ (hbox); have GW537 := aM_ ((by rw [hg]; exact (by exact HK.out.1) : w.heap.size ≤ gb537)); replace HK := aM_ (Kept.below (S := (fun k_ => P0_0_ k_)) (by repeat (first | (with_reducible first | exact HK.out | apply Kept.alloc | apply Kept.drewN | apply Kept.drew) | exact HK.out)) hb); have GE537 := aM_ ((by rw [hg]; exact (bZ_ HB.out) : w0.heap.size ≤ gb537)); replace HB := aM_ (bT_ HB.out hb); clear hb hbox hg; have hcz6_0 : w5.cell? ⟨gb537, 0, none⟩ = some (.slice Ao4 l0_0.length co4) := (bC_ BK537.out 0).trans rfl; have hfz6_0 := bF_ BK537.out 0) | ((with_reducible refine gC_ (f := 40) rfl ?_); refine goesL_ (some 8) rfl rfl Tryz.func40 (by kernel_rfl) rfl #[.slice Ao4 l0_0.length co4, .int .i64 a1] rfl (by (try simp only [sD_, sE_, sF_]); rfl) ?_; (with_reducible refine (laws_markBranchS.calls k (fun k_ => some k_ = (.slice Ao4 l0_0.length co4 : Value).ownBlock) (.slice Ao4 l0_0.length co4) l0_0 a1 t538 t539 w0 _ ?side1 ?side2 A3.out).mono ?_); (case side1 => exact HB.out); (case side2 => exact Kd.R_tight rfl HO0_0.out); rintro e w7 ⟨rfl, hy0, hb, hkp⟩; refine ⟨_, rfl, ?_⟩; replace BK537 := aM_ (blk_kept BK537.out hkp (fun hs_ => (fun e_ => (k6_ HO0_0.out BK537.out (by decide)) e_) hs_)); replace HK := aM_ (Kept.then_ (S := (fun k_ => P0_0_ k_)) (by repeat (first | (with_reducible first | exact HK.out | apply Kept.alloc | apply Kept.drewN | apply Kept.drew | refine Kept.setCell ?_ (.inr GW537.out) _) | exact HK.out)) hkp (fun k_ hs_ => (fun e_ => (HO0_0.out.1 k_ e_.symm)) hs_)); replace HO0_0 := aM_ (Kd.R_reok rfl hy0 (fun k_ e_ => HO0_0.out.1 k_ e_)); replace HB := aM_ (hb); (try clear hb); (try clear hkp); (try clear hy0)))
 go_ret
 exact ⟨by rfl, by exact HO0_0.out, by exact HB.out, by repeat (first | (with_reducible first | exact HK.out | apply Kept.alloc | apply Kept.drewN | apply Kept.drew | refine Kept.setCell ?_ (.inr GW537.out) _) | exact HK.out)⟩
def laws_markNodeS.l0 : Nat → List (S76) → Int → Int → Option (Int × (List (S76)))
 | 0, _, _, _ => none
 | k + 1, x0, x1, x5 => if x5 < (x0.length : Int) then (if 0 ≤ x5 then ((some (x0.set (x5 : Int).toNat (⟨x1, (rd_T76 x0 x5).f1, (rd_T76 x0 x5).f2⟩ : S76) : List (S76))).bind fun y540 => ((some (y540.set (x5 : Int).toNat (⟨(rd_T76 y540 x5).f0, wrap64 (x1 + 1), (rd_T76 y540 x5).f2⟩ : S76) : List (S76))).bind fun y541 => (laws_markNodeS.l0 k (y541.set (x5 : Int).toNat (⟨(rd_T76 y541 x5).f0, (rd_T76 y541 x5).f1, ((Int.tmod (wrap64 ((wrap64 (x1 + 1)) + 1)) 3) == 0)⟩ : S76)) (wrap64 ((wrap64 ((wrap64 (x1 + 1)) + 1)) + 1)) (wrap64 (x5 + 1))))) else (none)) else (some (x1, x0))
def laws_markNodeS.f (k : Nat) (l0 : List (S76)) (a1 : Int) : Option (Int × (List (S76))) := laws_markNodeS.l0 k l0 a1 0
theorem laws_markNodeS.mono_l : ∀ k, (∀ y0 y1 y2, LeO (laws_markNodeS.l0 k y0 y1 y2) (laws_markNodeS.l0 (k + 1) y0 y1 y2))
 | 0 => fun _ _ _ r h => by simp [laws_markNodeS.l0] at h
 | k + 1 => by
  have ih0 := laws_markNodeS.mono_l k
  ·
   intro y0 y1 y2
   unfold laws_markNodeS.l0
   repeat' with_reducible first | exact ih0 _ _ _ | exact l3_ _ | exact l0_ _ | refine l2_ ?_ ?_ | refine l1_ ?_ (fun _ => ?_)
theorem laws_markNodeS.mono : ∀ a0 a1 k, LeO (laws_markNodeS.f k a0 a1) (laws_markNodeS.f (k + 1) a0 a1) := by
 intro a0 a1 k
 have ih0 := laws_markNodeS.mono_l k
 unfold laws_markNodeS.f
 repeat' with_reducible first | exact ih0 _ _ _ | exact l3_ _ | exact l0_ _ | refine l2_ ?_ ?_ | refine l1_ ?_ (fun _ => ?_)
theorem laws_markNodeS.calls (k : Nat) (P0_ : Nat → Prop) (u9000_ : Value) (l0 : List (S76)) (a1 : Int) (r1 : Int) (r2 : List (S76)) (w0 w : World) (hB : Below w0.heap.size w0 w) (ho0 : Kd.R k76 76 w w0.heap.size P0_ u9000_ l0) (h : laws_markNodeS.f k l0 a1 = some (r1, r2)) :
  Calls Tryz.prog 41 #[u9000_, .int .i64 a1] w fun e w' => e = .returned (.int .i64 r1) ∧ Kd.R k76 76 w' w0.heap.size (fun k_ => (P0_ k_ ∨ w.heap.size ≤ k_)) u9000_ r2 ∧ Below w0.heap.size w0 w' ∧ Kept w w' (fun k_ => P0_ k_) := by
 have HO0 := aM_ (show Kd.R k76 76 w w0.heap.size (fun k_ => (P0_ k_ ∨ w.heap.size ≤ k_)) u9000_ l0 from kM_ ho0 (fun k_ hk => (.inl hk)))
 have HK := aM_ (Kept.refl w (fun k_ => P0_ k_))
 have HW0 := aM_ hB.size
 have HB := aM_ hB
 clear hB
 have H : (laws_markNodeS.l0 k l0 a1 0) = some (r1, r2) := h
 clear h
 have H' := aM_ H
 clear H
 go_enter Tryz.func41, Tryz.ntmps41
 go_wp2
 go_loopg [1, 5] k (fun kq v1 v5 w' => ∃ (x0_1 : List (S76)) (x1_1 : Int) (x5_1 : Int), v1 = .int .i64 x1_1 ∧ v5 = .int .i64 x5_1 ∧ Aside0 (laws_markNodeS.l0 kq x0_1 x1_1 x5_1 = some (r1, r2)) ∧ Aside0 (kq ≤ k) ∧ Aside0 (Kd.R k76 76 w' w0.heap.size (fun k_ => (P0_ k_ ∨ w.heap.size ≤ k_)) u9000_ x0_1) ∧ Aside0 (Kept w w' (fun k_ => P0_ k_)) ∧ Aside0 (Below w0.heap.size w0 w'))
 case atStart => exact ⟨(l0), (a1), (0), (by rfl), (by rfl), H', ⟨Nat.le_refl _⟩, ⟨HO0.out⟩, ⟨by repeat (first | (with_reducible first | exact HK.out | apply Kept.alloc | apply Kept.drewN | apply Kept.drew) | exact HK.out)⟩, ⟨HB.out⟩⟩
 case round =>
  clear H'
  try clear p2
  obtain ⟨x0_1, x1_1, x5_1, rfl, rfl, HA, HK1, HO_0, HK, HB⟩ := hrel
  cases gk with
  | zero => exact absurd HA.out (by simp [laws_markNodeS.l0])
  | succ k1 =>
   have H := HA.out
   clear HA
   simp only [laws_markNodeS.l0] at H
   by_cases c3 : x5_1 < (x0_1.length : Int)
   ·
    rw [if_pos c3] at H
    have c3b0 := decide_eq_true c3
    clear c3
    by_cases c4 : 0 ≤ x5_1
    ·
     rw [if_pos c4] at H
     have c4b0 := decide_eq_true c4
     clear c4
     obtain ⟨y540, hy540⟩ : ∃ y_ : List (S76), y_ = (x0_1.set (x5_1 : Int).toNat (⟨x1_1, (rd_T76 x0_1 x5_1).f1, (rd_T76 x0_1 x5_1).f2⟩ : S76)) := ⟨_, rfl⟩
     replace H : ((some (y540.set (x5_1 : Int).toNat (⟨(rd_T76 y540 x5_1).f0, wrap64 (x1_1 + 1), (rd_T76 y540 x5_1).f2⟩ : S76) : List (S76))).bind fun y541 => (laws_markNodeS.l0 k1 (y541.set (x5_1 : Int).toNat (⟨(rd_T76 y541 x5_1).f0, (rd_T76 y541 x5_1).f1, ((Int.tmod (wrap64 ((wrap64 (x1_1 + 1)) + 1)) 3) == 0)⟩ : S76)) (wrap64 ((wrap64 ((wrap64 (x1_1 + 1)) + 1)) + 1)) (wrap64 (x5_1 + 1)))) = some (r1, r2) := by first | (rw [hy540]; with_reducible exact H) | (have H2_ := (Option.bind_some _ _).symm.trans H; rw [hy540]; with_reducible exact H2_) | (have H2_ := (Option.bind_some _ _).symm.trans H; with_reducible exact H2_) | with_reducible exact H | (rw [hy540]; exact H) | exact H
     have Ny540 := aM_ hy540
     clear hy540
     obtain ⟨y541, hy541⟩ : ∃ y_ : List (S76), y_ = (y540.set (x5_1 : Int).toNat (⟨(rd_T76 y540 x5_1).f0, wrap64 (x1_1 + 1), (rd_T76 y540 x5_1).f2⟩ : S76)) := ⟨_, rfl⟩
     replace H : (laws_markNodeS.l0 k1 (y541.set (x5_1 : Int).toNat (⟨(rd_T76 y541 x5_1).f0, (rd_T76 y541 x5_1).f1, ((Int.tmod (wrap64 ((wrap64 (x1_1 + 1)) + 1)) 3) == 0)⟩ : S76)) (wrap64 ((wrap64 ((wrap64 (x1_1 + 1)) + 1)) + 1)) (wrap64 (x5_1 + 1))) = some (r1, r2) := by first | (rw [hy541]; with_reducible exact H) | (have H2_ := (Option.bind_some _ _).symm.trans H; rw [hy541]; with_reducible exact H2_) | (have H2_ := (Option.bind_some _ _).symm.trans H; with_reducible exact H2_) | with_reducible exact H | (rw [hy541]; exact H) | exact H
     have Ny541 := aM_ hy541
     clear hy541
     obtain ⟨y542, hy542⟩ : ∃ y_ : List (S76), y_ = (y541.set (x5_1 : Int).toNat (⟨(rd_T76 y541 x5_1).f0, (rd_T76 y541 x5_1).f1, ((Int.tmod (wrap64 ((wrap64 (x1_1 + 1)) + 1)) 3) == 0)⟩ : S76)) := ⟨_, rfl⟩
     replace H : (laws_markNodeS.l0 k1 y542 (wrap64 ((wrap64 ((wrap64 (x1_1 + 1)) + 1)) + 1)) (wrap64 (x5_1 + 1))) = some (r1, r2) := by first | (rw [hy542]; with_reducible exact H) | (have H2_ := (Option.bind_some _ _).symm.trans H; rw [hy542]; with_reducible exact H2_) | (have H2_ := (Option.bind_some _ _).symm.trans H; with_reducible exact H2_) | with_reducible exact H | (rw [hy542]; exact H) | exact H
     have Ny542 := aM_ hy542
     clear hy542
     have H' := aM_ H
     clear H
     obtain ⟨Ao8, co8, eo8⟩ := kS_ HO_0.out
     subst eo8
     have p5 : 0 ≤ (x5_1 : Int) := of_decide_eq_true ‹_›
     have q5 : (x5_1 : Int) < ((x0_1.length : Int) : Int) := of_decide_eq_true ‹_›
     obtain ⟨go5, co5, eo5, gb5, gl5, cl5, HG5⟩ := Kd.R_form HO_0.out (by omega)
     (cases eo5)
     have GB5 := aM_ gb5
     have GG5 := aM_ HG5
     clear gb5 gl5 HG5
     have HMgo5 := aM_ (show (P0_ go5 ∨ w.heap.size ≤ go5) from (HO_0.out.1 _ rfl))
     obtain ⟨ce5, hcl5, hM5, hcc5, hfr5⟩ := Kd.R_elem HO_0.out z76 (x5_1 : Int) p5 q5
     obtain rfl := k76_openM hM5
     have hx5_0 : wr.cell? ⟨go5, (x5_1 : Int).toNat * 3, none⟩ = some (.int .i64 ((rd_T76 x0_1 x5_1).f0)) := hcc5 0 _ rfl
     have hx5_1 : wr.cell? ⟨go5, (x5_1 : Int).toNat * 3 + 1, none⟩ = some (.int .i64 ((rd_T76 x0_1 x5_1).f1)) := hcc5 1 _ rfl
     have hx5_2 : wr.cell? ⟨go5, (x5_1 : Int).toNat * 3 + 2, none⟩ = some (.bool ((rd_T76 x0_1 x5_1).f2)) := hcc5 2 _ rfl
     have hf5_0 : wr.frozen? ⟨go5, (x5_1 : Int).toNat * 3, none⟩ = false := hfr5 0
     have hf5_1 : wr.frozen? ⟨go5, (x5_1 : Int).toNat * 3 + 1, none⟩ = false := hfr5 1
     have hf5_2 : wr.frozen? ⟨go5, (x5_1 : Int).toNat * 3 + 2, none⟩ = false := hfr5 2
     clear hcl5 hcc5 hfr5 hM5
     replace p5 := eq_true p5
     replace q5 := eq_true q5
     have HX9 := aM_ (show Kd.R k76 76 wr w0.heap.size (fun k_ => (P0_ k_ ∨ w.heap.size ≤ k_)) (.slice (some ⟨go5, 0, none⟩) x0_1.length co8) x0_1 from HO_0.out)
     obtain ⟨ce9, hcl9, hM9, hcc9, hfr9⟩ := Kd.R_elem HX9.out z76 (x5_1 : Int) (of_decide_eq_true ‹_›) (by have h_ : (x5_1 : Int) < ((x0_1.length : Int) : Int) := of_decide_eq_true ‹_›; exact h_)
     obtain rfl := k76_openM hM9
     have HP9 := Kd.R_seg HX9.out (x5_1 : Int) (of_decide_eq_true ‹_›) (by have h_ : (x5_1 : Int) < ((x0_1.length : Int) : Int) := of_decide_eq_true ‹_›; exact h_) (seg := [.int .i64 x1_1]) (j := 0) hcl9 hcc9 (show 1 ≤ 3 from by decide) (x' := (⟨x1_1, (rd_T76 x0_1 x5_1).f1, (rd_T76 x0_1 x5_1).f2⟩ : S76)) (k76_mkM _ _ _ (⟨x1_1, (rd_T76 x0_1 x5_1).f1, (rd_T76 x0_1 x5_1).f2⟩ : S76) ) (fun _ hk => hk)
     have hx9_0 := hcc9 0 _ rfl
     (try simp only [show (k76).sz = 3 from rfl, Nat.mul_one, Nat.add_zero] at hx9_0)
     have hf9_0 := hfr9 0
     (try simp only [show (k76).sz = 3 from rfl, Nat.mul_one, Nat.add_zero] at hf9_0)
     clear hcl9 hcc9 hfr9 hM9
     go_wp2_with (first | ((with_reducible refine gate_store (t := 3) (p := 16) rfl ?_); refine store_event (t := 3) (p := 16) (v := ?vo_w10) (w1 := (wr.setCell ⟨go5, (x5_1 : Int).toNat * 3, none⟩ (.int .i64 x1_1))) ?hg ?ho ?hn ?hr ?_; (case ho => rfl); (case hg => rfl); (case hn => rfl); (case hr => (go_simp; done)); intro w10 hw; have hg : wr.grownBy w10 (some go5) := (by rw [hw]; exact HP9.2); have hp_ : Kd.R k76 76 w10 w0.heap.size (fun k_ => (P0_ k_ ∨ w.heap.size ≤ k_)) (.slice (some ⟨go5, 0, none⟩) x0_1.length co8) y540 := (by rw [hw, Ny540.out]; exact HP9.1); clear HP9; replace HB := aM_ ((by rw [hw]; exact bS_ (HB.out) GB5.out : Below w0.heap.size w0 w10)); replace HK := aM_ (Kept.of_grown (S := (fun k_ => P0_ k_)) hg (by repeat (first | (with_reducible first | exact HK.out | apply Kept.alloc | apply Kept.drewN | apply Kept.drew) | exact HK.out)) (fun k_ e_ => (HO_0.out.1 k_ e_))); replace HO_0 := aM_ (hp_); clear hg hw hp_; have p6 : 0 ≤ (x5_1 : Int) := of_decide_eq_true ‹_›; have q6 : (x5_1 : Int) < ((x0_1.length : Int) : Int) := of_decide_eq_true ‹_›; obtain ⟨ce6, hcl6, hM6, hcc6, hfr6⟩ := Kd.R_elem HO_0.out z76 (x5_1 : Int) p6 q6; obtain rfl := k76_openM hM6; have hx6_0 : w10.cell? ⟨go5, (x5_1 : Int).toNat * 3, none⟩ = some (.int .i64 ((rd_T76 y540 x5_1).f0)) := hcc6 0 _ rfl; have hx6_1 : w10.cell? ⟨go5, (x5_1 : Int).toNat * 3 + 1, none⟩ = some (.int .i64 ((rd_T76 y540 x5_1).f1)) := hcc6 1 _ rfl; have hx6_2 : w10.cell? ⟨go5, (x5_1 : Int).toNat * 3 + 2, none⟩ = some (.bool ((rd_T76 y540 x5_1).f2)) := hcc6 2 _ rfl; have hf6_0 : w10.frozen? ⟨go5, (x5_1 : Int).toNat * 3, none⟩ = false := hfr6 0; have hf6_1 : w10.frozen? ⟨go5, (x5_1 : Int).toNat * 3 + 1, none⟩ = false := hfr6 1; have hf6_2 : w10.frozen? ⟨go5, (x5_1 : Int).toNat * 3 + 2, none⟩ = false := hfr6 2; clear hcl6 hcc6 hfr6 hM6; replace p6 := eq_true p6; replace q6 := eq_true q6; have HX11 := aM_ (show Kd.R k76 76 w10 w0.heap.size (fun k_ => (P0_ k_ ∨ w.heap.size ≤ k_)) (.slice (some ⟨go5, 0, none⟩) x0_1.length co8) y540 from HO_0.out); obtain ⟨ce11, hcl11, hM11, hcc11, hfr11⟩ := Kd.R_elem HX11.out z76 (x5_1 : Int) (of_decide_eq_true ‹_›) (by have h_ : (x5_1 : Int) < ((x0_1.length : Int) : Int) := of_decide_eq_true ‹_›; exact h_); obtain rfl := k76_openM hM11; have HP11 := Kd.R_seg HX11.out (x5_1 : Int) (of_decide_eq_true ‹_›) (by have h_ : (x5_1 : Int) < ((x0_1.length : Int) : Int) := of_decide_eq_true ‹_›; exact h_) (seg := [.int .i64 (wrap64 (x1_1 + 1))]) (j := 1) hcl11 hcc11 (show 2 ≤ 3 from by decide) (x' := (⟨(rd_T76 y540 x5_1).f0, wrap64 (x1_1 + 1), (rd_T76 y540 x5_1).f2⟩ : S76)) (k76_mkM _ _ _ (⟨(rd_T76 y540 x5_1).f0, wrap64 (x1_1 + 1), (rd_T76 y540 x5_1).f2⟩ : S76) ) (fun _ hk => hk); have hx11_1 := hcc11 1 _ rfl; (try simp only [show (k76).sz = 3 from rfl, Nat.mul_one, Nat.add_zero] at hx11_1); have hf11_1 := hfr11 1; (try simp only [show (k76).sz = 3 from rfl, Nat.mul_one, Nat.add_zero] at hf11_1); clear hcl11 hcc11 hfr11 hM11) | ((with_reducible refine gate_store (t := 3) (p := 23) rfl ?_); refine store_event (t := 3) (p := 23) (v := ?vo_w12) (w1 := (w10.setCell ⟨go5, (x5_1 : Int).toNat * 3 + 1, none⟩ (.int .i64 (wrap64 (x1_1 + 1))))) ?hg ?ho ?hn ?hr ?_; (case ho => rfl); (case hg => rfl); (case hn => rfl); (case hr => (go_simp; done)); intro w12 hw; have hg : w10.grownBy w12 (some go5) := (by rw [hw]; exact HP11.2); have hp_ : Kd.R k76 76 w12 w0.heap.size (fun k_ => (P0_ k_ ∨ w.heap.size ≤ k_)) (.slice (some ⟨go5, 0, none⟩) x0_1.length co8) y541 := (by rw [hw, Ny541.out]; exact HP11.1); clear HP11; replace HB := aM_ ((by rw [hw]; exact bS_ (HB.out) GB5.out : Below w0.heap.size w0 w12)); replace HK := aM_ (Kept.of_grown (S := (fun k_ => P0_ k_)) hg (by repeat (first | (with_reducible first | exact HK.out | apply Kept.alloc | apply Kept.drewN | apply Kept.drew) | exact HK.out)) (fun k_ e_ => (HO_0.out.1 k_ e_))); replace HO_0 := aM_ (hp_); clear hg hw hp_; have p7 : 0 ≤ (x5_1 : Int) := of_decide_eq_true ‹_›; have q7 : (x5_1 : Int) < ((x0_1.length : Int) : Int) := of_decide_eq_true ‹_›; obtain ⟨ce7, hcl7, hM7, hcc7, hfr7⟩ := Kd.R_elem HO_0.out z76 (x5_1 : Int) p7 q7; obtain rfl := k76_openM hM7; have hx7_0 : w12.cell? ⟨go5, (x5_1 : Int).toNat * 3, none⟩ = some (.int .i64 ((rd_T76 y541 x5_1).f0)) := hcc7 0 _ rfl; have hx7_1 : w12.cell? ⟨go5, (x5_1 : Int).toNat * 3 + 1, none⟩ = some (.int .i64 ((rd_T76 y541 x5_1).f1)) := hcc7 1 _ rfl; have hx7_2 : w12.cell? ⟨go5, (x5_1 : Int).toNat * 3 + 2, none⟩ = some (.bool ((rd_T76 y541 x5_1).f2)) := hcc7 2 _ rfl; have hf7_0 : w12.frozen? ⟨go5, (x5_1 : Int).toNat * 3, none⟩ = false := hfr7 0; have hf7_1 : w12.frozen? ⟨go5, (x5_1 : Int).toNat * 3 + 1, none⟩ = false := hfr7 1; have hf7_2 : w12.frozen? ⟨go5, (x5_1 : Int).toNat * 3 + 2, none⟩ = false := hfr7 2; clear hcl7 hcc7 hfr7 hM7; replace p7 := eq_true p7; replace q7 := eq_true q7; have HX13 := aM_ (show Kd.R k76 76 w12 w0.heap.size (fun k_ => (P0_ k_ ∨ w.heap.size ≤ k_)) (.slice (some ⟨go5, 0, none⟩) x0_1.length co8) y541 from HO_0.out); obtain ⟨ce13, hcl13, hM13, hcc13, hfr13⟩ := Kd.R_elem HX13.out z76 (x5_1 : Int) (of_decide_eq_true ‹_›) (by have h_ : (x5_1 : Int) < ((x0_1.length : Int) : Int) := of_decide_eq_true ‹_›; exact h_); obtain rfl := k76_openM hM13; have HP13 := Kd.R_seg HX13.out (x5_1 : Int) (of_decide_eq_true ‹_›) (by have h_ : (x5_1 : Int) < ((x0_1.length : Int) : Int) := of_decide_eq_true ‹_›; exact h_) (seg := [.bool ((Int.tmod (wrap64 ((wrap64 (x1_1 + 1)) + 1)) 3) == 0)]) (j := 2) hcl13 hcc13 (show 3 ≤ 3 from by decide) (x' := (⟨(rd_T76 y541 x5_1).f0, (rd_T76 y541 x5_1).f1, ((Int.tmod (wrap64 ((wrap64 (x1_1 + 1)) + 1)) 3) == 0)⟩ : S76)) (k76_mkM _ _ _ (⟨(rd_T76 y541 x5_1).f0, (rd_T76 y541 x5_1).f1, ((Int.tmod (wrap64 ((wrap64 (x1_1 + 1)) + 1)) 3) == 0)⟩ : S76) ) (fun _ hk => hk); have hx13_2 := hcc13 2 _ rfl; (try simp only [show (k76).sz = 3 from rfl, Nat.mul_one, Nat.add_zero] at hx13_2); have hf13_2 := hfr13 2; (try simp only [show (k76).sz = 3 from rfl, Nat.mul_one, Nat.add_zero] at hf13_2); clear hcl13 hcc13 hfr13 hM13) | ((with_reducible refine gate_store (t := 4) (p := 32) rfl ?_); refine store_event (t := 4) (p := 32) (v := ?vo_w14) (w1 := (w12.setCell ⟨go5, (x5_1 : Int).toNat * 3 + 2, none⟩ (.bool ((Int.tmod (wrap64 ((wrap64 (x1_1 + 1)) + 1)) 3) == 0)))) ?hg ?ho ?hn ?hr ?_; (case ho => rfl); (case hg => rfl); (case hn => rfl); (case hr => (go_simp; done)); intro w14 hw; have hg : w12.grownBy w14 (some go5) := (by rw [hw]; exact HP13.2); have hp_ : Kd.R k76 76 w14 w0.heap.size (fun k_ => (P0_ k_ ∨ w.heap.size ≤ k_)) (.slice (some ⟨go5, 0, none⟩) x0_1.length co8) y542 := (by rw [hw, Ny542.out]; exact HP13.1); clear HP13; replace HB := aM_ ((by rw [hw]; exact bS_ (HB.out) GB5.out : Below w0.heap.size w0 w14)); replace HK := aM_ (Kept.of_grown (S := (fun k_ => P0_ k_)) hg (by repeat (first | (with_reducible first | exact HK.out | apply Kept.alloc | apply Kept.drewN | apply Kept.drew) | exact HK.out)) (fun k_ e_ => (HO_0.out.1 k_ e_))); replace HO_0 := aM_ (hp_); clear hg hw hp_))
     go_roundg k1
     case measure => have := HK1.out; omega
     case rel => exact ⟨(y542), (wrap64 ((wrap64 ((wrap64 (x1_1 + 1)) + 1)) + 1)), (wrap64 (x5_1 + 1)), (by rfl), (by rfl), H', ⟨by have := HK1.out; omega⟩, ⟨HO_0.out⟩, ⟨by repeat (first | (with_reducible first | exact HK.out | apply Kept.alloc | apply Kept.drewN | apply Kept.drew) | exact HK.out)⟩, ⟨HB.out⟩⟩
    ·
     rw [if_neg c4] at H
     exact absurd H (by simp)
   ·
    rw [if_neg c3] at H
    have c3b0 := decide_eq_false c3
    clear c3
    simp only [Option.some.injEq, Prod.mk.injEq] at H
    obtain ⟨rfl, rfl⟩ := H
    obtain ⟨Ao15, co15, eo15⟩ := kS_ HO_0.out
    subst eo15
    go_wp2
    go_ret
    exact ⟨by rfl, by exact HO_0.out, by exact HB.out, by repeat (first | (with_reducible first | exact HK.out | apply Kept.alloc | apply Kept.drewN | apply Kept.drew) | exact HK.out)⟩
def laws_markTrie.f (k : Nat) (l0_0 : List (S76)) (a1 : Int) : Option (Int × (List (S76))) := (laws_markNodeS.f k l0_0 a1).bind fun bt544 => (some (bt544.1, bt544.2))
theorem laws_markTrie.mono : ∀ a0 a1 k, LeO (laws_markTrie.f k a0 a1) (laws_markTrie.f (k + 1) a0 a1) := by
 intro a0 a1 k
 unfold laws_markTrie.f
 repeat' with_reducible first | exact laws_markNodeS.mono _ _ _ | exact l3_ _ | exact l0_ _ | refine l2_ ?_ ?_ | refine l1_ ?_ (fun _ => ?_)
theorem laws_markTrie.calls (k : Nat) (P0_0_ : Nat → Prop) (u9000_ : Value) (l0_0 : List (S76)) (a1 : Int) (r1 : Int) (r2 : List (S76)) (w0 w : World) (hB : Below w0.heap.size w0 w) (ho0_0 : Kd.R k76 76 w w0.heap.size P0_0_ u9000_ l0_0) (h : laws_markTrie.f k l0_0 a1 = some (r1, r2)) :
  Calls Tryz.prog 17 #[.agg #[u9000_], .int .i64 a1] w fun e w' => e = .returned (.int .i64 r1) ∧ Kd.R k76 76 w' w0.heap.size (fun k_ => (P0_0_ k_ ∨ w.heap.size ≤ k_)) u9000_ r2 ∧ Below w0.heap.size w0 w' ∧ Kept w w' (fun k_ => P0_0_ k_) := by
 have hu36 := Tryz.underlying36
 have HO0_0 := aM_ (show Kd.R k76 76 w w0.heap.size (fun k_ => (P0_0_ k_ ∨ w.heap.size ≤ k_)) u9000_ l0_0 from kM_ ho0_0 (fun k_ hk => (.inl hk)))
 have HK := aM_ (Kept.refl w (fun k_ => P0_0_ k_))
 have HW0 := aM_ hB.size
 have HB := aM_ hB
 clear hB
 have H : ((laws_markNodeS.f k l0_0 a1).bind fun bt544 => (some (bt544.1, bt544.2))) = some (r1, r2) := h
 clear h
 replace H := oB_.mp H
 obtain ⟨⟨t544, t545⟩, A30, H⟩ := H
 try dsimp only at H
 have A3 := aM_ A30
 clear A30
 simp only [Option.some.injEq, Prod.mk.injEq] at H
 obtain ⟨rfl, rfl⟩ := H
 obtain ⟨Ao4, co4, eo4⟩ := kS_ HO0_0.out
 subst eo4
 go_enter Tryz.func17, Tryz.ntmps17
 go_wp2_with (first | ((with_reducible refine gD_ (N := 2) rfl ?_); refine bE_ ?hg (N := 2) ?hd (cs := #[.slice Ao4 l0_0.length co4]) (t := 36) ?hr ?_; (case hd => rfl); (case hg => rfl); (case hr => (go_simp; done)); intro gb543 hg w5 hbox hb; replace HO0_0 := aM_ (kB_ HO0_0.out hb); have BK543 := aM_ (hbox); have GW543 := aM_ ((by rw [hg]; exact (by exact HK.out.1) : w.heap.size ≤ gb543)); replace HK := aM_ (Kept.below (S := (fun k_ => P0_0_ k_)) (by repeat (first | (with_reducible first | exact HK.out | apply Kept.alloc | apply Kept.drewN | apply Kept.drew) | exact HK.out)) hb); have GE543 := aM_ ((by rw [hg]; exact (bZ_ HB.out) : w0.heap.size ≤ gb543)); replace HB := aM_ (bT_ HB.out hb); clear hb hbox hg; have hcz6_0 : w5.cell? ⟨gb543, 0, none⟩ = some (.slice Ao4 l0_0.length co4) := (bC_ BK543.out 0).trans rfl; have hfz6_0 := bF_ BK543.out 0) | ((with_reducible refine gC_ (f := 41) rfl ?_); refine goesL_ (some 8) rfl rfl Tryz.func41 (by kernel_rfl) rfl #[.slice Ao4 l0_0.length co4, .int .i64 a1] rfl (by (try simp only [sD_, sE_, sF_]); rfl) ?_; (with_reducible refine (laws_markNodeS.calls k (fun k_ => some k_ = (.slice Ao4 l0_0.length co4 : Value).ownBlock) (.slice Ao4 l0_0.length co4) l0_0 a1 t544 t545 w0 _ ?side1 ?side2 A3.out).mono ?_); (case side1 => exact HB.out); (case side2 => exact Kd.R_tight rfl HO0_0.out); rintro e w7 ⟨rfl, hy0, hb, hkp⟩; refine ⟨_, rfl, ?_⟩; replace BK543 := aM_ (blk_kept BK543.out hkp (fun hs_ => (fun e_ => (k6_ HO0_0.out BK543.out (by decide)) e_) hs_)); replace HK := aM_ (Kept.then_ (S := (fun k_ => P0_0_ k_)) (by repeat (first | (with_reducible first | exact HK.out | apply Kept.alloc | apply Kept.drewN | apply Kept.drew | refine Kept.setCell ?_ (.inr GW543.out) _) | exact HK.out)) hkp (fun k_ hs_ => (fun e_ => (HO0_0.out.1 k_ e_.symm)) hs_)); replace HO0_0 := aM_ (Kd.R_reok rfl hy0 (fun k_ e_ => HO0_0.out.1 k_ e_)); replace HB := aM_ (hb); (try clear hb); (try clear hkp); (try clear hy0)))
 go_ret
 exact ⟨by rfl, by exact HO0_0.out, by exact HB.out, by repeat (first | (with_reducible first | exact HK.out | apply Kept.alloc | apply Kept.drewN | apply Kept.drew | refine Kept.setCell ?_ (.inr GW543.out) _) | exact HK.out)⟩
def laws_heldNodeS.l0 : Nat → List (S76) → Int → Int → Option (Int)
 | 0, _, _, _ => none
 | k + 1, x0, x1, x5 => if x5 < (x0.length : Int) then (if 0 ≤ x5 then (if ((rd_T76 x0 x5).f0) = x1 then (if ((rd_T76 x0 x5).f1) = (wrap64 (x1 + 1)) then (if (((rd_T76 x0 x5).f2) != ((Int.tmod (wrap64 ((wrap64 (x1 + 1)) + 1)) 3) == 0)) = true then (some (-1)) else (laws_heldNodeS.l0 k x0 (wrap64 ((wrap64 ((wrap64 (x1 + 1)) + 1)) + 1)) (wrap64 (x5 + 1)))) else (some (-1))) else (some (-1))) else (none)) else (some x1)
def laws_heldNodeS.f (k : Nat) (l0 : List (S76)) (a1 : Int) : Option (Int) := laws_heldNodeS.l0 k l0 a1 0
theorem laws_heldNodeS.mono_l : ∀ k, (∀ y0 y1 y2, LeO (laws_heldNodeS.l0 k y0 y1 y2) (laws_heldNodeS.l0 (k + 1) y0 y1 y2))
 | 0 => fun _ _ _ r h => by simp [laws_heldNodeS.l0] at h
 | k + 1 => by
  have ih0 := laws_heldNodeS.mono_l k
  ·
   intro y0 y1 y2
   unfold laws_heldNodeS.l0
   repeat' with_reducible first | exact ih0 _ _ _ | exact l3_ _ | exact l0_ _ | refine l2_ ?_ ?_ | refine l1_ ?_ (fun _ => ?_)
theorem laws_heldNodeS.mono : ∀ a0 a1 k, LeO (laws_heldNodeS.f k a0 a1) (laws_heldNodeS.f (k + 1) a0 a1) := by
 intro a0 a1 k
 have ih0 := laws_heldNodeS.mono_l k
 unfold laws_heldNodeS.f
 repeat' with_reducible first | exact ih0 _ _ _ | exact l3_ _ | exact l0_ _ | refine l2_ ?_ ?_ | refine l1_ ?_ (fun _ => ?_)
theorem laws_heldNodeS.calls (k : Nat) (A0 : Option Addr) (c0 : Nat) (l0 : List (S76)) (a1 : Int) (r : Int) (w : World) (hr0 : Kd.C k76 w A0 l0.length l0) (hc0 : l0.length ≤ c0) (h : laws_heldNodeS.f k l0 a1 = some r) :
  Calls Tryz.prog 42 #[.slice A0 l0.length c0, .int .i64 a1] w fun e w' => e = .returned (.int .i64 r) ∧ Drawn0 w w' := by
 have HR0 := aM_ hr0
 have HC0 := aM_ hc0
 clear hr0 hc0
 have H : (laws_heldNodeS.l0 k l0 a1 0) = some r := h
 clear h
 have H' := aM_ H
 clear H
 go_enter Tryz.func42, Tryz.ntmps42
 go_wp2
 go_loopg [1, 5] k (fun kq v1 v5 w' => ∃ (x1_1 : Int) (x5_1 : Int), v1 = .int .i64 x1_1 ∧ v5 = .int .i64 x5_1 ∧ Aside0 (laws_heldNodeS.l0 kq l0 x1_1 x5_1 = some r) ∧ Aside0 (kq ≤ k) ∧ Drawn0 w w')
 case atStart => exact ⟨(a1), (0), (by rfl), (by rfl), H', ⟨Nat.le_refl _⟩, by repeat (first | exact Drawn0.refl _ | apply Drawn0.step)⟩
 case round =>
  clear H'
  try clear p2
  obtain ⟨x1_1, x5_1, rfl, rfl, HA, HK1, ⟨m1, rfl⟩⟩ := hrel
  cases gk with
  | zero => exact absurd HA.out (by simp [laws_heldNodeS.l0])
  | succ k1 =>
   have H := HA.out
   clear HA
   simp only [laws_heldNodeS.l0] at H
   by_cases c3 : x5_1 < (l0.length : Int)
   ·
    rw [if_pos c3] at H
    have c3b0 := decide_eq_true c3
    clear c3
    by_cases c4 : 0 ≤ x5_1
    ·
     rw [if_pos c4] at H
     have c4b0 := decide_eq_true c4
     clear c4
     by_cases c5 : ((rd_T76 l0 x5_1).f0) = x1_1
     ·
      rw [if_pos c5] at H
      have c5b0 : (((rd_T76 l0 x5_1).f0) == x1_1) = true := beq_iff_eq.mpr c5
      have c5b1 : (((rd_T76 l0 x5_1).f0) != x1_1) = false := bne_eq_false_iff_eq.mpr c5
      clear c5
      by_cases c6 : ((rd_T76 l0 x5_1).f1) = (wrap64 (x1_1 + 1))
      ·
       rw [if_pos c6] at H
       have c6b0 : (((rd_T76 l0 x5_1).f1) == (wrap64 (x1_1 + 1))) = true := beq_iff_eq.mpr c6
       have c6b1 : (((rd_T76 l0 x5_1).f1) != (wrap64 (x1_1 + 1))) = false := bne_eq_false_iff_eq.mpr c6
       clear c6
       by_cases c7 : (((rd_T76 l0 x5_1).f2) != ((Int.tmod (wrap64 ((wrap64 (x1_1 + 1)) + 1)) 3) == 0)) = true
       ·
        rw [if_pos c7] at H
        have c7b0 : (((rd_T76 l0 x5_1).f2) != ((Int.tmod (wrap64 ((wrap64 (x1_1 + 1)) + 1)) 3) == 0)) = true := c7
        (try (have c7b1 : decide (((rd_T76 l0 x5_1).f2) = ((Int.tmod (wrap64 ((wrap64 (x1_1 + 1)) + 1)) 3) == 0)) = false := by simpa using c7))
        (try (have c7b2 : (((rd_T76 l0 x5_1).f2) == ((Int.tmod (wrap64 ((wrap64 (x1_1 + 1)) + 1)) 3) == 0)) = false := by simpa using c7))
        (try (have c7b3 : ¬ (((rd_T76 l0 x5_1).f2) = ((Int.tmod (wrap64 ((wrap64 (x1_1 + 1)) + 1)) 3) == 0)) := by simpa using c7))
        clear c7
        obtain rfl := Option.some.inj H
        have p546 : 0 ≤ (x5_1 : Int) := of_decide_eq_true ‹_›
        have q546 : x5_1 < (l0.length : Int) := of_decide_eq_true ‹_›
        obtain ⟨ad546, e546, hx546_0, hx546_1, hx546_2⟩ := at_T76 HR0.out x5_1 p546 q546
        cases e546
        replace p546 := eq_true p546
        replace q546 := eq_true q546
        have p547 : 0 ≤ (x5_1 : Int) := of_decide_eq_true ‹_›
        have q547 : x5_1 < (l0.length : Int) := of_decide_eq_true ‹_›
        obtain ⟨ad547, e547, hx547_0, hx547_1, hx547_2⟩ := at_T76 HR0.out x5_1 p547 q547
        obtain rfl : ad546 = ad547 := (by injection e547)
        replace p547 := eq_true p547
        replace q547 := eq_true q547
        have p548 : 0 ≤ (x5_1 : Int) := of_decide_eq_true ‹_›
        have q548 : x5_1 < (l0.length : Int) := of_decide_eq_true ‹_›
        obtain ⟨ad548, e548, hx548_0, hx548_1, hx548_2⟩ := at_T76 HR0.out x5_1 p548 q548
        obtain rfl : ad546 = ad548 := (by injection e548)
        replace p548 := eq_true p548
        replace q548 := eq_true q548
        go_wp2
        go_ret
        exact ⟨by rfl, by repeat (first | exact Drawn0.refl _ | apply Drawn0.step)⟩
       ·
        rw [if_neg c7] at H
        have c7b0 : (((rd_T76 l0 x5_1).f2) != ((Int.tmod (wrap64 ((wrap64 (x1_1 + 1)) + 1)) 3) == 0)) = false := by simpa using c7
        (try (have c7b1 : decide (((rd_T76 l0 x5_1).f2) = ((Int.tmod (wrap64 ((wrap64 (x1_1 + 1)) + 1)) 3) == 0)) = true := by simpa using c7))
        (try (have c7b2 : (((rd_T76 l0 x5_1).f2) == ((Int.tmod (wrap64 ((wrap64 (x1_1 + 1)) + 1)) 3) == 0)) = true := by simpa using c7))
        clear c7
        have H' := aM_ H
        clear H
        have p546 : 0 ≤ (x5_1 : Int) := of_decide_eq_true ‹_›
        have q546 : x5_1 < (l0.length : Int) := of_decide_eq_true ‹_›
        obtain ⟨ad546, e546, hx546_0, hx546_1, hx546_2⟩ := at_T76 HR0.out x5_1 p546 q546
        cases e546
        replace p546 := eq_true p546
        replace q546 := eq_true q546
        have p547 : 0 ≤ (x5_1 : Int) := of_decide_eq_true ‹_›
        have q547 : x5_1 < (l0.length : Int) := of_decide_eq_true ‹_›
        obtain ⟨ad547, e547, hx547_0, hx547_1, hx547_2⟩ := at_T76 HR0.out x5_1 p547 q547
        obtain rfl : ad546 = ad547 := (by injection e547)
        replace p547 := eq_true p547
        replace q547 := eq_true q547
        have p548 : 0 ≤ (x5_1 : Int) := of_decide_eq_true ‹_›
        have q548 : x5_1 < (l0.length : Int) := of_decide_eq_true ‹_›
        obtain ⟨ad548, e548, hx548_0, hx548_1, hx548_2⟩ := at_T76 HR0.out x5_1 p548 q548
        obtain rfl : ad546 = ad548 := (by injection e548)
        replace p548 := eq_true p548
        replace q548 := eq_true q548
        go_wp2
        go_roundg k1
        case measure => have := HK1.out; omega
        case rel => exact ⟨(wrap64 ((wrap64 ((wrap64 (x1_1 + 1)) + 1)) + 1)), (wrap64 (x5_1 + 1)), (by rfl), (by rfl), H', ⟨by have := HK1.out; omega⟩, by repeat (first | exact Drawn0.refl _ | apply Drawn0.step)⟩
      ·
       rw [if_neg c6] at H
       have c6b0 : (((rd_T76 l0 x5_1).f1) == (wrap64 (x1_1 + 1))) = false := beq_eq_false_iff_ne.mpr c6
       have c6b1 : (((rd_T76 l0 x5_1).f1) != (wrap64 (x1_1 + 1))) = true := bne_iff_ne.mpr c6
       obtain rfl := Option.some.inj H
       have p546 : 0 ≤ (x5_1 : Int) := of_decide_eq_true ‹_›
       have q546 : x5_1 < (l0.length : Int) := of_decide_eq_true ‹_›
       obtain ⟨ad546, e546, hx546_0, hx546_1, hx546_2⟩ := at_T76 HR0.out x5_1 p546 q546
       cases e546
       replace p546 := eq_true p546
       replace q546 := eq_true q546
       have p547 : 0 ≤ (x5_1 : Int) := of_decide_eq_true ‹_›
       have q547 : x5_1 < (l0.length : Int) := of_decide_eq_true ‹_›
       obtain ⟨ad547, e547, hx547_0, hx547_1, hx547_2⟩ := at_T76 HR0.out x5_1 p547 q547
       obtain rfl : ad546 = ad547 := (by injection e547)
       replace p547 := eq_true p547
       replace q547 := eq_true q547
       go_wp2
       go_ret
       exact ⟨by rfl, by repeat (first | exact Drawn0.refl _ | apply Drawn0.step)⟩
     ·
      rw [if_neg c5] at H
      have c5b0 : (((rd_T76 l0 x5_1).f0) == x1_1) = false := beq_eq_false_iff_ne.mpr c5
      have c5b1 : (((rd_T76 l0 x5_1).f0) != x1_1) = true := bne_iff_ne.mpr c5
      obtain rfl := Option.some.inj H
      have p546 : 0 ≤ (x5_1 : Int) := of_decide_eq_true ‹_›
      have q546 : x5_1 < (l0.length : Int) := of_decide_eq_true ‹_›
      obtain ⟨ad546, e546, hx546_0, hx546_1, hx546_2⟩ := at_T76 HR0.out x5_1 p546 q546
      cases e546
      replace p546 := eq_true p546
      replace q546 := eq_true q546
      go_wp2
      go_ret
      exact ⟨by rfl, by repeat (first | exact Drawn0.refl _ | apply Drawn0.step)⟩
    ·
     rw [if_neg c4] at H
     exact absurd H (by simp)
   ·
    rw [if_neg c3] at H
    have c3b0 := decide_eq_false c3
    clear c3
    obtain rfl := Option.some.inj H
    go_wp2
    go_ret
    exact ⟨by rfl, by repeat (first | exact Drawn0.refl _ | apply Drawn0.step)⟩
def laws_heldTrie.f (k : Nat) (l0_0 : List (S76)) (a1 : Int) : Option (Int) := (laws_heldNodeS.f k l0_0 a1).bind fun t550 => (if t550 < 0 then (some (-1)) else (some t550))
theorem laws_heldTrie.mono : ∀ a0 a1 k, LeO (laws_heldTrie.f k a0 a1) (laws_heldTrie.f (k + 1) a0 a1) := by
 intro a0 a1 k
 unfold laws_heldTrie.f
 repeat' with_reducible first | exact laws_heldNodeS.mono _ _ _ | exact l3_ _ | exact l0_ _ | refine l2_ ?_ ?_ | refine l1_ ?_ (fun _ => ?_)
theorem laws_heldTrie.calls (k : Nat) (A0_0 : Option Addr) (c0_0 : Nat) (l0_0 : List (S76)) (a1 : Int) (r : Int) (w : World) (hr0_0 : Kd.C k76 w A0_0 l0_0.length l0_0) (hc0_0 : l0_0.length ≤ c0_0) (h : laws_heldTrie.f k l0_0 a1 = some r) :
  Calls Tryz.prog 18 #[.agg #[.slice A0_0 l0_0.length c0_0], .int .i64 a1] w fun e w' => e = .returned (.int .i64 r) ∧ Below w.heap.size w w' := by
 have hu36 := Tryz.underlying36
 have HR0_0 := aM_ hr0_0
 have HC0_0 := aM_ hc0_0
 clear hr0_0 hc0_0
 have HB := aM_ (Below.refl w.heap.size w)
 have H : ((laws_heldNodeS.f k l0_0 a1).bind fun t550 => (if t550 < 0 then (some (-1)) else (some t550))) = some r := h
 clear h
 replace H := oB_.mp H
 obtain ⟨t550, A30, H⟩ := H
 try dsimp only at H
 have A3 := aM_ A30
 clear A30
 by_cases c4 : t550 < 0
 ·
  rw [if_pos c4] at H
  have c4b0 := decide_eq_true c4
  clear c4
  obtain rfl := Option.some.inj H
  go_enter Tryz.func18, Tryz.ntmps18
  go_wp2_with (first | ((with_reducible refine gD_ (N := 2) rfl ?_); refine bE_ ?hg (N := 2) ?hd (cs := #[.slice A0_0 l0_0.length c0_0]) (t := 36) ?hr ?_; (case hd => rfl); (case hg => rfl); (case hr => (go_simp; done)); intro gb549 hg w5 hbox hb; have BK549 := aM_ (hbox); have GW549 := aM_ ((by rw [hg]; exact (bZ_ HB.out) : w.heap.size ≤ gb549)); have GE549 := GW549; replace HB := aM_ (bT_ HB.out hb); clear hb hbox hg; have hcz6_0 : w5.cell? ⟨gb549, 0, none⟩ = some (.slice A0_0 l0_0.length c0_0) := (bC_ BK549.out 0).trans rfl; have hfz6_0 := bF_ BK549.out 0) | ((with_reducible refine gC_ (f := 42) rfl ?_); refine goesL_ (some 8) rfl rfl Tryz.func42 (by kernel_rfl) rfl #[.slice A0_0 l0_0.length c0_0, .int .i64 a1] rfl (by (try simp only [sD_, sE_, sF_]); rfl) ?_; (with_reducible refine (laws_heldNodeS.calls k _ _ l0_0 a1 t550 _ ?side1 ?side2 A3.out).mono ?_); (case side1 => repeat (first | exact (k4_ HR0_0.out HB.out) | (with_reducible refine Kd.C_alloc ?_ _) | (with_reducible refine Kd.C_drewN ?_ _) | (with_reducible refine Kd.C_drew ?_))); (case side2 => exact HC0_0.out); rintro e w' ⟨rfl, ⟨nd, rfl⟩⟩; refine ⟨_, rfl, ?_⟩))
  go_ret
  exact ⟨by rfl, by repeat (first | (with_reducible first | exact HB.out | apply bA_ | apply bN_ | apply bD_ | refine bS_ ?_ GE549.out) | exact HB.out)⟩
 ·
  rw [if_neg c4] at H
  have c4b0 := decide_eq_false c4
  clear c4
  obtain rfl := Option.some.inj H
  go_enter Tryz.func18, Tryz.ntmps18
  go_wp2_with (first | ((with_reducible refine gD_ (N := 2) rfl ?_); refine bE_ ?hg (N := 2) ?hd (cs := #[.slice A0_0 l0_0.length c0_0]) (t := 36) ?hr ?_; (case hd => rfl); (case hg => rfl); (case hr => (go_simp; done)); intro gb549 hg w7 hbox hb; have BK549 := aM_ (hbox); have GW549 := aM_ ((by rw [hg]; exact (bZ_ HB.out) : w.heap.size ≤ gb549)); have GE549 := GW549; replace HB := aM_ (bT_ HB.out hb); clear hb hbox hg; have hcz8_0 : w7.cell? ⟨gb549, 0, none⟩ = some (.slice A0_0 l0_0.length c0_0) := (bC_ BK549.out 0).trans rfl; have hfz8_0 := bF_ BK549.out 0) | ((with_reducible refine gC_ (f := 42) rfl ?_); refine goesL_ (some 8) rfl rfl Tryz.func42 (by kernel_rfl) rfl #[.slice A0_0 l0_0.length c0_0, .int .i64 a1] rfl (by (try simp only [sD_, sE_, sF_]); rfl) ?_; (with_reducible refine (laws_heldNodeS.calls k _ _ l0_0 a1 t550 _ ?side1 ?side2 A3.out).mono ?_); (case side1 => repeat (first | exact (k4_ HR0_0.out HB.out) | (with_reducible refine Kd.C_alloc ?_ _) | (with_reducible refine Kd.C_drewN ?_ _) | (with_reducible refine Kd.C_drew ?_))); (case side2 => exact HC0_0.out); rintro e w' ⟨rfl, ⟨nd, rfl⟩⟩; refine ⟨_, rfl, ?_⟩))
  go_ret
  exact ⟨by rfl, by repeat (first | (with_reducible first | exact HB.out | apply bA_ | apply bN_ | apply bD_ | refine bS_ ?_ GE549.out) | exact HB.out)⟩
def laws_szBranch.f (a0_0 : ByteArray) (a0_1 : Int) (a0_2 : Bool) (a1 : Int) : Option (Int) := if (wrap64 (a1 - (a0_0.size : Int))) < 0 then (some (-1)) else (some (wrap64 (a1 - (a0_0.size : Int))))
theorem laws_szBranch.calls (a0_0 : ByteArray) (a0_1 : Int) (a0_2 : Bool) (a1 : Int) (r : Int) (w : World) (h : laws_szBranch.f a0_0 a0_1 a0_2 a1 = some r) :
  Calls Tryz.prog 53 #[.agg #[.string a0_0, .int .i64 a0_1, .bool a0_2], .int .i64 a1] w fun e w' => e = .returned (.int .i64 r) ∧ Below w.heap.size w w' := by
 have hu71 := Tryz.underlying71
 have HB := aM_ (Below.refl w.heap.size w)
 have H : (if (wrap64 (a1 - (a0_0.size : Int))) < 0 then (some (-1)) else (some (wrap64 (a1 - (a0_0.size : Int))))) = some r := h
 clear h
 by_cases c3 : (wrap64 (a1 - (a0_0.size : Int))) < 0
 ·
  rw [if_pos c3] at H
  have c3b0 := decide_eq_true c3
  clear c3
  obtain rfl := Option.some.inj H
  go_enter Tryz.func53, Tryz.ntmps53
  go_wp2_with (first | ((with_reducible refine gD_ (N := 2) rfl ?_); refine bE_ ?hg (N := 2) ?hd (cs := #[.string a0_0, .int .i64 a0_1, .bool a0_2]) (t := 71) ?hr ?_; (case hd => rfl); (case hg => rfl); (case hr => (go_simp; done)); intro gb101 hg w4 hbox hb; have BK101 := aM_ (hbox); have GW101 := aM_ ((by rw [hg]; exact (bZ_ HB.out) : w.heap.size ≤ gb101)); have GE101 := GW101; replace HB := aM_ (bT_ HB.out hb); clear hb hbox hg; have hcz5_0 : w4.cell? ⟨gb101, 0, none⟩ = some (.string a0_0) := (bC_ BK101.out 0).trans rfl; have hcz5_1 : w4.cell? ⟨gb101, 1, none⟩ = some (.int .i64 a0_1) := (bC_ BK101.out 1).trans rfl; have hcz5_2 : w4.cell? ⟨gb101, 2, none⟩ = some (.bool a0_2) := (bC_ BK101.out 2).trans rfl; have hfz5_0 := bF_ BK101.out 0; have hfz5_1 := bF_ BK101.out 1; have hfz5_2 := bF_ BK101.out 2))
  go_ret
  exact ⟨by rfl, by exact HB.out⟩
 ·
  rw [if_neg c3] at H
  have c3b0 := decide_eq_false c3
  clear c3
  obtain rfl := Option.some.inj H
  go_enter Tryz.func53, Tryz.ntmps53
  go_wp2_with (first | ((with_reducible refine gD_ (N := 2) rfl ?_); refine bE_ ?hg (N := 2) ?hd (cs := #[.string a0_0, .int .i64 a0_1, .bool a0_2]) (t := 71) ?hr ?_; (case hd => rfl); (case hg => rfl); (case hr => (go_simp; done)); intro gb101 hg w6 hbox hb; have BK101 := aM_ (hbox); have GW101 := aM_ ((by rw [hg]; exact (bZ_ HB.out) : w.heap.size ≤ gb101)); have GE101 := GW101; replace HB := aM_ (bT_ HB.out hb); clear hb hbox hg; have hcz7_0 : w6.cell? ⟨gb101, 0, none⟩ = some (.string a0_0) := (bC_ BK101.out 0).trans rfl; have hcz7_1 : w6.cell? ⟨gb101, 1, none⟩ = some (.int .i64 a0_1) := (bC_ BK101.out 1).trans rfl; have hcz7_2 : w6.cell? ⟨gb101, 2, none⟩ = some (.bool a0_2) := (bC_ BK101.out 2).trans rfl; have hfz7_0 := bF_ BK101.out 0; have hfz7_1 := bF_ BK101.out 1; have hfz7_2 := bF_ BK101.out 2))
  go_ret
  exact ⟨by rfl, by exact HB.out⟩
def laws_szBranchS.l0 : Nat → List (S71) → Int → Int → Option (Int)
 | 0, _, _, _ => none
 | k + 1, x0, x1, x5 => if x5 < (x0.length : Int) then (if 0 ≤ x5 then ((laws_szBranch.f ((rd_T71 x0 x5).f0) ((rd_T71 x0 x5).f1) ((rd_T71 x0 x5).f2) x1).bind fun t103 => (if t103 < 0 then (some (-1)) else (laws_szBranchS.l0 k x0 t103 (wrap64 (x5 + 1))))) else (none)) else (some x1)
def laws_szBranchS.f (k : Nat) (l0 : List (S71)) (a1 : Int) : Option (Int) := if (wrap64 (a1 - (l0.length : Int))) < 0 then (some (-1)) else (laws_szBranchS.l0 k l0 (wrap64 (a1 - (l0.length : Int))) 0)
theorem laws_szBranchS.mono_l : ∀ k, (∀ y0 y1 y2, LeO (laws_szBranchS.l0 k y0 y1 y2) (laws_szBranchS.l0 (k + 1) y0 y1 y2))
 | 0 => fun _ _ _ r h => by simp [laws_szBranchS.l0] at h
 | k + 1 => by
  have ih0 := laws_szBranchS.mono_l k
  ·
   intro y0 y1 y2
   unfold laws_szBranchS.l0
   repeat' with_reducible first | exact ih0 _ _ _ | exact l3_ _ | exact l0_ _ | refine l2_ ?_ ?_ | refine l1_ ?_ (fun _ => ?_)
theorem laws_szBranchS.mono : ∀ a0 a1 k, LeO (laws_szBranchS.f k a0 a1) (laws_szBranchS.f (k + 1) a0 a1) := by
 intro a0 a1 k
 have ih0 := laws_szBranchS.mono_l k
 unfold laws_szBranchS.f
 repeat' with_reducible first | exact ih0 _ _ _ | exact l3_ _ | exact l0_ _ | refine l2_ ?_ ?_ | refine l1_ ?_ (fun _ => ?_)
theorem laws_szBranchS.calls (k : Nat) (A0 : Option Addr) (c0 : Nat) (l0 : List (S71)) (a1 : Int) (r : Int) (w : World) (hr0 : Kd.C k71 w A0 l0.length l0) (hc0 : l0.length ≤ c0) (h : laws_szBranchS.f k l0 a1 = some r) :
  Calls Tryz.prog 26 #[.slice A0 l0.length c0, .int .i64 a1] w fun e w' => e = .returned (.int .i64 r) ∧ Below w.heap.size w w' := by
 have hu71 := Tryz.underlying71
 have HR0 := aM_ hr0
 have HC0 := aM_ hc0
 clear hr0 hc0
 have HB := aM_ (Below.refl w.heap.size w)
 have H : (if (wrap64 (a1 - (l0.length : Int))) < 0 then (some (-1)) else (laws_szBranchS.l0 k l0 (wrap64 (a1 - (l0.length : Int))) 0)) = some r := h
 clear h
 by_cases c3 : (wrap64 (a1 - (l0.length : Int))) < 0
 ·
  rw [if_pos c3] at H
  have c3b0 := decide_eq_true c3
  clear c3
  obtain rfl := Option.some.inj H
  go_enter Tryz.func26, Tryz.ntmps26
  go_wp2
  go_ret
  exact ⟨by rfl, by exact HB.out⟩
 ·
  rw [if_neg c3] at H
  have c3b0 := decide_eq_false c3
  clear c3
  have H' := aM_ H
  clear H
  go_enter Tryz.func26, Tryz.ntmps26
  go_wp2
  go_loopg [1, 5] k (fun kq v1 v5 w' => ∃ (x1_1 : Int) (x5_1 : Int), v1 = .int .i64 x1_1 ∧ v5 = .int .i64 x5_1 ∧ Aside0 (laws_szBranchS.l0 kq l0 x1_1 x5_1 = some r) ∧ Aside0 (kq ≤ k) ∧ Aside0 (Below w.heap.size w w'))
  case atStart => exact ⟨(wrap64 (a1 - (l0.length : Int))), (0), (by rfl), (by rfl), H', ⟨Nat.le_refl _⟩, ⟨HB.out⟩⟩
  case round =>
   clear H'
   try clear p2
   try clear c3b0
   obtain ⟨x1_1, x5_1, rfl, rfl, HA, HK1, HB⟩ := hrel
   cases gk with
   | zero => exact absurd HA.out (by simp [laws_szBranchS.l0])
   | succ k1 =>
    have H := HA.out
    clear HA
    simp only [laws_szBranchS.l0] at H
    by_cases c4 : x5_1 < (l0.length : Int)
    ·
     rw [if_pos c4] at H
     have c4b0 := decide_eq_true c4
     clear c4
     by_cases c5 : 0 ≤ x5_1
     ·
      rw [if_pos c5] at H
      have c5b0 := decide_eq_true c5
      clear c5
      replace H := oB_.mp H
      obtain ⟨t103, A60, H⟩ := H
      try dsimp only at H
      have A6 := aM_ A60
      clear A60
      by_cases c7 : t103 < 0
      ·
       rw [if_pos c7] at H
       have c7b0 := decide_eq_true c7
       clear c7
       obtain rfl := Option.some.inj H
       have p102 : 0 ≤ (x5_1 : Int) := of_decide_eq_true ‹_›
       have q102 : x5_1 < (l0.length : Int) := of_decide_eq_true ‹_›
       obtain ⟨ad102, e102, hx102_0, hx102_1, hx102_2⟩ := at_T71 HR0.out x5_1 p102 q102
       cases e102
       replace hx102_0 := (HB.out.cell (wB_ w _ hx102_0)).trans hx102_0
       replace hx102_1 := (HB.out.cell (wB_ w _ hx102_1)).trans hx102_1
       replace hx102_2 := (HB.out.cell (wB_ w _ hx102_2)).trans hx102_2
       replace p102 := eq_true p102
       replace q102 := eq_true q102
       go_wp2_with (first | ((with_reducible refine gC_ (f := 53) rfl ?_); refine goesL_ (some 23) rfl rfl Tryz.func53 (by kernel_rfl) rfl #[.agg #[.string ((rd_T71 l0 x5_1).f0), .int .i64 ((rd_T71 l0 x5_1).f1), .bool ((rd_T71 l0 x5_1).f2)], .int .i64 x1_1] rfl (by (try simp only [sD_, sE_, sF_]); rfl) ?_; (with_reducible refine (laws_szBranch.calls ((rd_T71 l0 x5_1).f0) ((rd_T71 l0 x5_1).f1) ((rd_T71 l0 x5_1).f2) x1_1 t103 _ A6.out).mono ?_); rintro e w8 ⟨rfl, hb⟩; refine ⟨_, rfl, ?_⟩; replace HB := aM_ (bT_ HB.out hb); (try clear hb)))
       go_ret
       exact ⟨by rfl, by exact HB.out⟩
      ·
       rw [if_neg c7] at H
       have c7b0 := decide_eq_false c7
       clear c7
       have H' := aM_ H
       clear H
       have p102 : 0 ≤ (x5_1 : Int) := of_decide_eq_true ‹_›
       have q102 : x5_1 < (l0.length : Int) := of_decide_eq_true ‹_›
       obtain ⟨ad102, e102, hx102_0, hx102_1, hx102_2⟩ := at_T71 HR0.out x5_1 p102 q102
       cases e102
       replace hx102_0 := (HB.out.cell (wB_ w _ hx102_0)).trans hx102_0
       replace hx102_1 := (HB.out.cell (wB_ w _ hx102_1)).trans hx102_1
       replace hx102_2 := (HB.out.cell (wB_ w _ hx102_2)).trans hx102_2
       replace p102 := eq_true p102
       replace q102 := eq_true q102
       go_wp2_with (first | ((with_reducible refine gC_ (f := 53) rfl ?_); refine goesL_ (some 23) rfl rfl Tryz.func53 (by kernel_rfl) rfl #[.agg #[.string ((rd_T71 l0 x5_1).f0), .int .i64 ((rd_T71 l0 x5_1).f1), .bool ((rd_T71 l0 x5_1).f2)], .int .i64 x1_1] rfl (by (try simp only [sD_, sE_, sF_]); rfl) ?_; (with_reducible refine (laws_szBranch.calls ((rd_T71 l0 x5_1).f0) ((rd_T71 l0 x5_1).f1) ((rd_T71 l0 x5_1).f2) x1_1 t103 _ A6.out).mono ?_); rintro e w9 ⟨rfl, hb⟩; refine ⟨_, rfl, ?_⟩; replace HB := aM_ (bT_ HB.out hb); (try clear hb)))
       go_roundg k1
       case measure => have := HK1.out; omega
       case rel => exact ⟨(t103), (wrap64 (x5_1 + 1)), (by rfl), (by rfl), H', ⟨by have := HK1.out; omega⟩, ⟨HB.out⟩⟩
     ·
      rw [if_neg c5] at H
      exact absurd H (by simp)
    ·
     rw [if_neg c4] at H
     have c4b0 := decide_eq_false c4
     clear c4
     obtain rfl := Option.some.inj H
     go_wp2
     go_ret
     exact ⟨by rfl, by exact HB.out⟩
def laws_szPressed.f (k : Nat) (l0_0 : List (S71)) (a1 : Int) : Option (Int) := (laws_szBranchS.f k l0_0 a1).bind fun t105 => (if t105 < 0 then (some (-1)) else (some t105))
theorem laws_szPressed.mono : ∀ a0 a1 k, LeO (laws_szPressed.f k a0 a1) (laws_szPressed.f (k + 1) a0 a1) := by
 intro a0 a1 k
 unfold laws_szPressed.f
 repeat' with_reducible first | exact laws_szBranchS.mono _ _ _ | exact l3_ _ | exact l0_ _ | refine l2_ ?_ ?_ | refine l1_ ?_ (fun _ => ?_)
theorem laws_szPressed.calls (k : Nat) (A0_0 : Option Addr) (c0_0 : Nat) (l0_0 : List (S71)) (a1 : Int) (r : Int) (w : World) (hr0_0 : Kd.C k71 w A0_0 l0_0.length l0_0) (hc0_0 : l0_0.length ≤ c0_0) (h : laws_szPressed.f k l0_0 a1 = some r) :
  Calls Tryz.prog 8 #[.agg #[.slice A0_0 l0_0.length c0_0], .int .i64 a1] w fun e w' => e = .returned (.int .i64 r) ∧ Below w.heap.size w w' := by
 have hu24 := Tryz.underlying24
 have HR0_0 := aM_ hr0_0
 have HC0_0 := aM_ hc0_0
 clear hr0_0 hc0_0
 have HB := aM_ (Below.refl w.heap.size w)
 have H : ((laws_szBranchS.f k l0_0 a1).bind fun t105 => (if t105 < 0 then (some (-1)) else (some t105))) = some r := h
 clear h
 replace H := oB_.mp H
 obtain ⟨t105, A30, H⟩ := H
 try dsimp only at H
 have A3 := aM_ A30
 clear A30
 by_cases c4 : t105 < 0
 ·
  rw [if_pos c4] at H
  have c4b0 := decide_eq_true c4
  clear c4
  obtain rfl := Option.some.inj H
  go_enter Tryz.func8, Tryz.ntmps8
  go_wp2_with (first | ((with_reducible refine gD_ (N := 2) rfl ?_); refine bE_ ?hg (N := 2) ?hd (cs := #[.slice A0_0 l0_0.length c0_0]) (t := 24) ?hr ?_; (case hd => rfl); (case hg => rfl); (case hr => (go_simp; done)); intro gb104 hg w5 hbox hb; have BK104 := aM_ (hbox); have GW104 := aM_ ((by rw [hg]; exact (bZ_ HB.out) : w.heap.size ≤ gb104)); have GE104 := GW104; replace HB := aM_ (bT_ HB.out hb); clear hb hbox hg; have hcz6_0 : w5.cell? ⟨gb104, 0, none⟩ = some (.slice A0_0 l0_0.length c0_0) := (bC_ BK104.out 0).trans rfl; have hfz6_0 := bF_ BK104.out 0) | ((with_reducible refine gC_ (f := 26) rfl ?_); refine goesL_ (some 8) rfl rfl Tryz.func26 (by kernel_rfl) rfl #[.slice A0_0 l0_0.length c0_0, .int .i64 a1] rfl (by (try simp only [sD_, sE_, sF_]); rfl) ?_; (with_reducible refine (laws_szBranchS.calls k _ _ l0_0 a1 t105 _ ?side1 ?side2 A3.out).mono ?_); (case side1 => repeat (first | exact (k4_ HR0_0.out HB.out) | (with_reducible refine Kd.C_alloc ?_ _) | (with_reducible refine Kd.C_drewN ?_ _) | (with_reducible refine Kd.C_drew ?_))); (case side2 => exact HC0_0.out); rintro e w7 ⟨rfl, hb⟩; refine ⟨_, rfl, ?_⟩; replace BK104 := aM_ (bB_ BK104.out hb); replace HB := aM_ (bT_ HB.out hb); (try clear hb)))
  go_ret
  exact ⟨by rfl, by exact HB.out⟩
 ·
  rw [if_neg c4] at H
  have c4b0 := decide_eq_false c4
  clear c4
  obtain rfl := Option.some.inj H
  go_enter Tryz.func8, Tryz.ntmps8
  go_wp2_with (first | ((with_reducible refine gD_ (N := 2) rfl ?_); refine bE_ ?hg (N := 2) ?hd (cs := #[.slice A0_0 l0_0.length c0_0]) (t := 24) ?hr ?_; (case hd => rfl); (case hg => rfl); (case hr => (go_simp; done)); intro gb104 hg w8 hbox hb; have BK104 := aM_ (hbox); have GW104 := aM_ ((by rw [hg]; exact (bZ_ HB.out) : w.heap.size ≤ gb104)); have GE104 := GW104; replace HB := aM_ (bT_ HB.out hb); clear hb hbox hg; have hcz9_0 : w8.cell? ⟨gb104, 0, none⟩ = some (.slice A0_0 l0_0.length c0_0) := (bC_ BK104.out 0).trans rfl; have hfz9_0 := bF_ BK104.out 0) | ((with_reducible refine gC_ (f := 26) rfl ?_); refine goesL_ (some 8) rfl rfl Tryz.func26 (by kernel_rfl) rfl #[.slice A0_0 l0_0.length c0_0, .int .i64 a1] rfl (by (try simp only [sD_, sE_, sF_]); rfl) ?_; (with_reducible refine (laws_szBranchS.calls k _ _ l0_0 a1 t105 _ ?side1 ?side2 A3.out).mono ?_); (case side1 => repeat (first | exact (k4_ HR0_0.out HB.out) | (with_reducible refine Kd.C_alloc ?_ _) | (with_reducible refine Kd.C_drewN ?_ _) | (with_reducible refine Kd.C_drew ?_))); (case side2 => exact HC0_0.out); rintro e w10 ⟨rfl, hb⟩; refine ⟨_, rfl, ?_⟩; replace BK104 := aM_ (bB_ BK104.out hb); replace HB := aM_ (bT_ HB.out hb); (try clear hb)))
  go_ret
  exact ⟨by rfl, by exact HB.out⟩
end Go.Proofs.YtfhffcefpnkllaaGreatDoor.P
namespace Go.Proofs.YtfhffcefpnkllaaGreatDoor.P
open Go.RowKit Go.Proofs.YtfhffcefpnkllaaGreatDoorW.PrintWords Go.Proofs.YtfhffcefpnkllaaGreatDoorW.PrintLast Go.Proofs.YtfhffcefpnkllaaGreatDoorW.PrintMore
attribute [local go_sem] max2_int min2_int max_two min_two max_three min_three max_four min_four
namespace OA
open Go.ChangeShapes Go.WideShapes Go.Deep Go.ChangeAt Go.Joins
section
variable {H : Type} {enc : TypeId × Value → H} {P : Program} {w : World} {base : Nat} {spare : Nat → Bool} {held : Bool}
theorem fields {t e : TypeId} {fs : Array Field} {fuel : Nat} {cs : List Value} {x : DataW H × List MemPlace} (ht : P.underlying t = some (.slice e)) (he : P.underlying e = some (.struct fs))
  (hone : oneCellFields P fs = true) (hC : P.cellsOf e = fs.size) (h : DataW.trod enc P w base spare held fuel t cs = some x) :
  (cs = [.slice none 0 0]) ∨
  ∃ (a : Addr) (len cap : Nat), cs = [.slice (some a) len cap] ∧ len ≤ cap ∧ cap ≤ maxLen ∧
   ∀ i, i < len → ∃ n : Nat, ∀ (j : Nat) (f : Field), fs[j]? = some f → ∃ (v : Value) (y : DataW H × List MemPlace), w.cell? (a.add (i * fs.size + j)) = some v ∧ DataW.trod enc P w base spare held n f.type [v] = some y := by
 rcases open_slice ht h with h0 | ⟨a, len, cap, m, n, D, Pl, hcs, hb, hl, hm, hmm, hx, hi⟩
 ·
  exact .inl h0.1
 ·
  refine .inr ⟨a, len, cap, hcs, hl, hm, fun i hil => ?_⟩
  have him : i < m := by rw [hmm]; split <;> omega
  obtain ⟨cs', hc, ht'⟩ := hi i him
  rw [hC] at hc
  obtain ⟨ys, n', hn', hy, hlen, hyl, hf⟩ := DataW.trod_struct he ht'
  obtain ⟨_, hcl, hat⟩ := World.cells?_some hc
  refine ⟨n', fun j f hj => ?_⟩
  obtain ⟨ho, hk⟩ := hone_of hone j f hj
  have hjl : j < fs.size := (Array.getElem?_eq_some_iff.1 hj).1
  have hcell := hat j hjl
  have hv : cs'[j]? = some (cs'[j]'(by omega)) := List.getElem?_eq_getElem (by omega)
  have h1 := hf j f hj
  rw [ho, hk] at h1
  have hone' : (cs'.drop j).take 1 = [cs'[j]'(by omega)] := by
   rw [List.drop_eq_getElem_cons (by omega)]
   rfl
  rw [hone'] at h1
  have hys : ys[j]? = some (ys[j]'(by omega)) := List.getElem?_eq_getElem (by omega)
  refine ⟨_, _, ?_, h1.trans hys⟩
  rw [← Go.Deep.add_add, hcell, hv]
theorem array1 {α : Type} {cs : Array α} (h : cs.size = 1) : ∃ c0, cs = #[c0] := by
 obtain ⟨l⟩ := cs
 match l, h with
 | [c0], _ => exact ⟨c0, rfl⟩
theorem agg1 {r : Reach} {b0 : Nat} {t : TypeId} {f0 : Field} {v : Value} {d : DataW H} {p : List MemPlace} (hs : P.underlying t = some (.struct #[f0])) (hone : oneCellFields P #[f0] = true) (hC : P.cellsOf t = 1)
  (hv : Value.okWide P w r b0 t v) (h : DataW.Trod enc P w base spare held t v d p) :
  ∃ (v0 : Value) (y0 : DataW H × List MemPlace) (n : Nat), v = .agg #[v0] ∧ DataW.trod enc P w base spare held n f0.type [v0] = some y0 := by
 obtain ⟨cs, rfl, hsz⟩ := okWide_struct hs hv
 obtain ⟨c0, rfl⟩ := array1 (hsz.trans hC)
 obtain ⟨fuel, hf⟩ := h
 obtain ⟨xs, n, _, hx, _, hlen, hg⟩ := DataW.trod_struct hs hf
 obtain ⟨o0, k0⟩ := hone_of hone 0 f0 rfl
 have h0 := hg 0 f0 rfl
 have hl : 0 < xs.length := by rw [hlen]; exact Nat.zero_lt_one
 rw [List.getElem?_eq_getElem hl] at h0
 exact ⟨c0, _, n, rfl, by simpa [Value.cells, o0, k0] using h0⟩
end
end OA
end Go.Proofs.YtfhffcefpnkllaaGreatDoor.P
namespace Go.Proofs.YtfhffcefpnkllaaGreatDoor.P
open Go.RowKit Go.Proofs.YtfhffcefpnkllaaGreatDoorW.PrintWords Go.Proofs.YtfhffcefpnkllaaGreatDoorW.PrintLast Go.Proofs.YtfhffcefpnkllaaGreatDoorW.PrintMore
attribute [local go_sem] max2_int min2_int max_two min_two max_three min_three max_four min_four
namespace OPr
open Go.ChangeShapes Go.WideShapes Go.Deep Go.ChangeAt Go.Joins OA
theorem pressed {H : Type} {enc : TypeId × Value → H} {w : World} {base : Nat} {spare : Nat → Bool} {held : Bool} {r : Reach} {b0 : Nat} {v : Value} {d : DataW H} {p : List MemPlace}
  (hv : Value.okWide Tryz.prog w r b0 24 v) (h : DataW.Trod enc Tryz.prog w base spare held 24 v d p) :
  ∃ (A : Option Addr) (cap : Nat) (l : List S71), v = .agg #[.slice A l.length cap] ∧ l.length ≤ cap ∧ Kd.C k71 w A l.length l ∧ (∀ x ∈ l, x.f0.size ≤ 9223372036854775807) := by
 obtain ⟨v0, y0, n, rfl, h0⟩ := agg1 Tryz.underlying24 (by kernel_rfl) (by kernel_rfl) hv h
 rcases fields Tryz.underlying22 Tryz.underlying71 (by kernel_rfl) (by kernel_rfl) h0 with e | ⟨a, len, cap, e, hl, hm, hi⟩
 ·
  obtain rfl : v0 = .slice none 0 0 := by simpa using e
  exact ⟨none, 0, [], rfl, Nat.le_refl _, ⟨rfl, by simp, fun h => absurd h (Nat.lt_irrefl _)⟩, fun x hx => by simp at hx⟩
 ·
  obtain rfl : v0 = .slice (some a) len cap := by simpa using e
  have hex : ∀ i, i < len → ∃ x : S71, w.cell? (a.add (i * 3 + 0)) = some (.string x.f0) ∧ w.cell? (a.add (i * 3 + 1)) = some (.int .i64 x.f1) ∧ w.cell? (a.add (i * 3 + 2)) = some (.bool x.f2) ∧ x.f0.size ≤ maxLen := by
   intro i hil
   obtain ⟨n, hf⟩ := hi i hil
   obtain ⟨u0, y0, c0, t0⟩ := hf 0 _ rfl
   obtain ⟨u1, y1, c1, t1⟩ := hf 1 _ rfl
   obtain ⟨u2, y2, c2, t2⟩ := hf 2 _ rfl
   obtain ⟨n0, e0, _, z0⟩ := DataW.trod_string Tryz.underlying9 t0
   obtain ⟨n1, e1, _, _⟩ := DataW.trod_int Tryz.underlying3 t1
   obtain ⟨b2, e2, _⟩ := DataW.trod_bool Tryz.underlying4 t2
   simp only [List.cons.injEq, and_true] at e0 e1 e2
   subst e0 e1 e2
   exact ⟨⟨n0, n1, b2⟩, c0, c1, c2, z0⟩
  obtain ⟨g, hg⟩ : ∃ g : Nat → S71, ∀ i, i < len → w.cell? (a.add (i * 3 + 0)) = some (.string (g i).f0) ∧ w.cell? (a.add (i * 3 + 1)) = some (.int .i64 (g i).f1) ∧ w.cell? (a.add (i * 3 + 2)) = some (.bool (g i).f2) ∧ (g i).f0.size ≤ maxLen :=
   ⟨fun i => if h : i < len then Classical.choose (hex i h) else z71, fun i h => by simp only [dif_pos h]; exact Classical.choose_spec (hex i h)⟩
  refine ⟨some a, cap, (List.range len).map g, by simp, by simpa using hl, ⟨by simp, ?_, fun _ => ⟨a, rfl, fun j p hj => ?_⟩⟩, fun x hx => ?_⟩
  ·
   have : (maxLen : Nat) ≤ 9223372036854775807 := by decide
   simp; omega
  ·
   obtain ⟨hjl, rfl⟩ := List.getElem?_eq_some_iff.1 hj
   have hjl' : j < len := by simpa using hjl
   obtain ⟨c0, c1, c2, _⟩ := hg j hjl'
   rw [List.getElem_map, List.getElem_range]
   refine ⟨_, rfl, k71_mk w (g j), fun i u hu => ?_⟩
   match i, hu with
   | 0, hu => obtain rfl := Option.some.inj hu; exact c0
   | 1, hu => obtain rfl := Option.some.inj hu; exact c1
   | 2, hu => obtain rfl := Option.some.inj hu; exact c2
  ·
   obtain ⟨i, hi, rfl⟩ := List.mem_map.1 hx
   have := (hg i (by simpa using hi)).2.2.2
   have h2 : (maxLen : Nat) ≤ 9223372036854775807 := by decide
   omega
end OPr
end Go.Proofs.YtfhffcefpnkllaaGreatDoor.P
namespace Go.Proofs.YtfhffcefpnkllaaGreatDoor.M
open Go.RowKit Go.Proofs.YtfhffcefpnkllaaGreatDoorW.PrintWords
theorem wrap64_id {x : Int} (h0 : -9223372036854775808 ≤ x) (h1 : x ≤ 9223372036854775807) : wrap64 x = x := by unfold wrap64; omega
theorem wrap64_succ (n : Nat) (h : n < 4611686018427387904) : wrap64 ((n : Int) + 1) = ((n + 1 : Nat) : Int) := by rw [wrap64_id (by omega) (by omega)]; rfl
theorem rd_nat (xs : List Int) (n : Nat) : rd xs (n : Int) = xs.getD n 0 := by simp [rd]
theorem getD_lt {α : Type} (z : α) {xs : List α} {n : Nat} (h : n < xs.length) : xs.getD n z = xs[n] := by simp [List.getD_eq_getElem?_getD, h]
theorem drop_cons_getD {α : Type} (z : α) {xs : List α} {n : Nat} (h : n < xs.length) : xs.drop n = xs.getD n z :: xs.drop (n + 1) := by
 rw [getD_lt z h]; exact List.drop_eq_getElem_cons h
theorem take_succ_getD {α : Type} (z : α) {xs : List α} {n : Nat} (h : n < xs.length) : xs.take (n + 1) = xs.take n ++ [xs.getD n z] := by
 rw [getD_lt z h, List.take_succ_eq_append_getElem h]
theorem fill_set {α : Type} (z : α) (xs : List α) (n : Nat) (h : n < xs.length) (y : α) : (xs.take n ++ List.replicate (xs.length - n) y).set n (xs.getD n z) = xs.take (n + 1) ++ List.replicate (xs.length - (n + 1)) y := by
 have hl : (xs.take n).length = n := by simp; omega
 rw [List.set_append_right _ _ (by omega), hl, Nat.sub_self, show xs.length - n = (xs.length - (n + 1)) + 1 from by omega, List.replicate_succ, List.set_cons_zero, take_succ_getD z h, List.append_assoc]
 rfl
theorem ite_eqT {α : Type} {c : Prop} [Decidable c] {a b : α} (h : c) : (if c then a else b) = a := if_pos h
theorem ite_eqF {α : Type} {c : Prop} [Decidable c] {a b : α} (h : ¬ c) : (if c then a else b) = b := if_neg h
theorem Ev.bind' {α β : Type} {g : Nat → Option α} {f : Nat → α → Option β} {a : α} {r : β} (h : Ev g a) (k : Ev (fun n => f n a) r) : Ev (fun n => (g n).bind fun t => f n t) r := Ev.bind h k
theorem Ev.pure {α : Type} {r : α} : Ev (fun _ => some r) r := Ev.now r
theorem Ev.some_bind {α β : Type} {a : α} {f : Nat → α → Option β} {r : β} (k : Ev (fun n => f n a) r) : Ev (fun n => (some a).bind fun t => f n t) r := k
theorem Ev.ifT {α : Type} {c : Prop} [Decidable c] {f g : Nat → Option α} {r : α} (h : c) (k : Ev f r) : Ev (fun n => if c then f n else g n) r := by simpa only [if_pos h] using k
theorem Ev.ifF {α : Type} {c : Prop} [Decidable c] {f g : Nat → Option α} {r : α} (h : ¬ c) (k : Ev g r) : Ev (fun n => if c then f n else g n) r := by simpa only [if_neg h] using k
def B (l : List UInt8) : ByteArray := ⟨l.toArray⟩
theorem exB (a : ByteArray) : ∃ l, a = B l := ⟨a.data.toList, ByteArray.ext (by simp [B])⟩
@[simp] theorem data_B (l : List UInt8) : (B l).data.toList = l := by simp [B]
@[simp] theorem toList_B (l : List UInt8) : (B l).toList = l := by rw [Go.ByteArray.toList_eq]; simp
@[simp] theorem size_B (l : List UInt8) : (B l).size = l.length := by rw [← ByteArray.size_data, ← Array.length_toList, data_B]
theorem B_data (a : ByteArray) : B a.data.toList = a := ByteArray.ext (by simp [B])
theorem B_inj {l m : List UInt8} (h : B l = B m) : l = m := by rw [← data_B l, h, data_B]
theorem B_eq {l m : List UInt8} : B l = B m ↔ l = m := ⟨B_inj, fun h => by rw [h]⟩
theorem eq_B {a : ByteArray} {l : List UInt8} (h : a.data.toList = l) : a = B l := by rw [← h, B_data]
@[simp] theorem append_B (l m : List UInt8) : B l ++ B m = B (l ++ m) := eq_B (by simp)
@[simp] theorem extract_B (l : List UInt8) (a b : Nat) : (B l).extract a b = B ((l.drop a).take (b - a)) := eq_B (by simp)
@[simp] theorem nil_B : (⟨#[]⟩ : ByteArray) = B [] := rfl
theorem bt_B (l : List UInt8) (n : Nat) (h : n < l.length) : bt (B l) (n : Int) = ((l.getD n 0).toNat : Int) := by
 have h2 : ((n : Int).toNat) < (B l).size := by simpa using h
 rw [bt, dif_pos h2, getD_lt 0 h]
 simp [B, ByteArray.getElem_eq_getElem_data]
def letterB (c : UInt8) : Bool := decide (97 ≤ c.toNat ∧ c.toNat ≤ 122)
end Go.Proofs.YtfhffcefpnkllaaGreatDoor.M
namespace Go.Proofs.YtfhffcefpnkllaaGreatDoor.M
abbrev Txt := List UInt8
theorem txt_irrefl (a : Txt) : ¬ a < a := List.lt_irrefl a
theorem txt_trans {a b c : Txt} (h : a < b) (k : b < c) : a < c := List.lt_trans h k
theorem txt_asymm {a b : Txt} (h : a < b) : ¬ b < a := fun k => txt_irrefl a (txt_trans h k)
theorem txt_tri {a b : Txt} (h : ¬ a < b) (k : ¬ b < a) : a = b := List.le_antisymm (List.not_lt.1 k) (List.not_lt.1 h)
def putL : List Txt → Txt → List Txt
 | [], w => [w]
 | x :: r, w => if x < w then x :: putL r w else if x = w then x :: r else w :: x :: r
def foundL : List Txt → Txt → Bool
 | [], _ => false
 | x :: r, w => if x < w then foundL r w else decide (x = w)
theorem putL_found : ∀ (l : List Txt) (w : Txt), foundL l w = true → putL l w = l
 | [], _, h => by simp [foundL] at h
 | x :: r, w, h => by
  by_cases h1 : x < w
  ·
   simp only [foundL, if_pos h1] at h; simp only [putL, if_pos h1, putL_found r w h]
  ·
   simp only [foundL, if_neg h1, decide_eq_true_eq] at h; simp only [putL, if_neg h1, if_pos h]
def Asc (l : List Txt) : Prop := l.Pairwise (· < ·)
theorem mem_putL : ∀ (l : List Txt) (w y : Txt), y ∈ putL l w ↔ y = w ∨ y ∈ l
 | [], w, y => by simp [putL]
 | x :: r, w, y => by
  by_cases h1 : x < w
  ·
   simp only [putL, if_pos h1, List.mem_cons, mem_putL r w y]
   constructor
   ·
    rintro (h | h | h)
    ·
     exact .inr (.inl h)
    ·
     exact .inl h
    ·
     exact .inr (.inr h)
   ·
    rintro (h | h | h)
    ·
     exact .inr (.inl h)
    ·
     exact .inl h
    ·
     exact .inr (.inr h)
  ·
   by_cases h2 : x = w
   ·
    simp only [putL, if_neg h1, if_pos h2, List.mem_cons]
    constructor
    ·
     exact fun h => .inr h
    ·
     rintro (h | h)
     ·
      exact .inl (h.trans h2.symm)
     ·
      exact h
   ·
    simp [putL, h1, h2]
theorem asc_putL : ∀ (l : List Txt) (w : Txt), Asc l → Asc (putL l w)
 | [], w, _ => by simp [putL, Asc]
 | x :: r, w, h => by
  unfold Asc at h ⊢
  rw [List.pairwise_cons] at h
  by_cases h1 : x < w
  ·
   simp only [putL, if_pos h1, List.pairwise_cons]
   refine ⟨fun y hy => ?_, asc_putL r w h.2⟩
   rcases (mem_putL r w y).1 hy with rfl | hy
   ·
    exact h1
   ·
    exact h.1 y hy
  ·
   by_cases h2 : x = w
   ·
    simp only [putL, if_neg h1, if_pos h2]; exact List.pairwise_cons.2 h
   ·
    simp only [putL, if_neg h1, if_neg h2, List.pairwise_cons]
    have hw : w < x := by
     by_cases h3 : w < x
     ·
      exact h3
     ·
      exact absurd (txt_tri h1 h3) h2
    refine ⟨fun y hy => ?_, h⟩
    rcases List.mem_cons.1 hy with rfl | hy
    ·
     exact hw
    ·
     exact txt_trans hw (h.1 y hy)
theorem asc_ext : ∀ (l m : List Txt), Asc l → Asc m → (∀ y, y ∈ l ↔ y ∈ m) → l = m
 | [], [], _, _, _ => rfl
 | [], y :: m, _, _, h => absurd ((h y).2 (by simp)) (by simp)
 | x :: l, [], _, _, h => absurd ((h x).1 (by simp)) (by simp)
 | x :: l, y :: m, hl, hm, h => by
  unfold Asc at hl hm
  rw [List.pairwise_cons] at hl hm
  have hxy : x = y := by
   rcases List.mem_cons.1 ((h x).1 (by simp)) with e | hx
   ·
    exact e
   rcases List.mem_cons.1 ((h y).2 (by simp)) with e | hy
   ·
    exact e.symm
   exact absurd (hm.1 x hx) (txt_asymm (hl.1 y hy))
  subst hxy
  rw [asc_ext l m hl.2 hm.2 ?_]
  intro z
  have := h z
  simp only [List.mem_cons] at this
  constructor
  ·
   intro hz
   rcases this.1 (.inr hz) with e | hz'
   ·
    exact absurd (hl.1 z hz) (by rw [e]; exact txt_irrefl _)
   ·
    exact hz'
  ·
   intro hz
   rcases this.2 (.inr hz) with e | hz'
   ·
    exact absurd (hm.1 z hz) (by rw [e]; exact txt_irrefl _)
   ·
    exact hz'
def setL (l : List Txt) : List Txt := l.foldl putL []
theorem foldl_putL_mem : ∀ (l acc : List Txt) (y : Txt), y ∈ l.foldl putL acc ↔ y ∈ l ∨ y ∈ acc
 | [], acc, y => by simp
 | x :: l, acc, y => by
  rw [List.foldl_cons, foldl_putL_mem l, mem_putL]
  simp only [List.mem_cons]
  constructor
  ·
   rintro (h | h | h)
   ·
    exact .inl (.inr h)
   ·
    exact .inl (.inl h)
   ·
    exact .inr h
  ·
   rintro ((h | h) | h)
   ·
    exact .inr (.inl h)
   ·
    exact .inl h
   ·
    exact .inr (.inr h)
theorem foldl_putL_asc : ∀ (l acc : List Txt), Asc acc → Asc (l.foldl putL acc)
 | [], _, h => h
 | _ :: l, acc, h => foldl_putL_asc l _ (asc_putL acc _ h)
theorem mem_setL (l : List Txt) (y : Txt) : y ∈ setL l ↔ y ∈ l := by simp [setL, foldl_putL_mem]
theorem asc_setL (l : List Txt) : Asc (setL l) := foldl_putL_asc l [] List.Pairwise.nil
theorem setL_of_asc {l : List Txt} (h : Asc l) : setL l = l := asc_ext _ _ (asc_setL l) h (mem_setL l)
theorem putL_length_le : ∀ (l : List Txt) (w : Txt), (putL l w).length ≤ l.length + 1
 | [], w => by simp [putL]
 | x :: r, w => by
  have := putL_length_le r w
  by_cases h1 : x < w
  ·
   simp only [putL, if_pos h1, List.length_cons]; omega
  ·
   by_cases h2 : x = w
   ·
    simp only [putL, if_neg h1, if_pos h2, List.length_cons]; omega
   ·
    simp only [putL, if_neg h1, if_neg h2, List.length_cons]; omega
end Go.Proofs.YtfhffcefpnkllaaGreatDoor.M
namespace Go.Proofs.YtfhffcefpnkllaaGreatDoor.P
open Go.RowKit Go.Proofs.YtfhffcefpnkllaaGreatDoorW.PrintWords Go.Proofs.YtfhffcefpnkllaaGreatDoorW.PrintLast Go.Proofs.YtfhffcefpnkllaaGreatDoorW.PrintMore
open Go.Proofs.YtfhffcefpnkllaaGreatDoorW.PrintWords renaming blk_frozen → bF_, blk_cell → bC_, below_set → bS_, blk_below → bB_, below_step → bT_, pw_below_drewN → bN_, below_size → bZ_, below_drew1 → bD_, below_alloc → bA_, blk_far → bR_, gate_callee → gC_, gate_dst → gD_, box_event → bE_, blk_drew → b1_, blk_put → bP_, blk_drewN → b2_, blk_alloc → b3_, blk_lt → bL_, cell_far → cF_
open Go.Proofs.YtfhffcefpnkllaaGreatDoorW.PrintLast renaming any_of → aO_, i64_w → i6_, i32_w → i3_, take_ofW → tW_
open Go.Proofs.YtfhffcefpnkllaaGreatDoorW.PrintWords.Kd renaming R_below → kB_, R_mono → kM_, R_far → kF_, R_reads' → kR_, R_types → kT_, R_slice → kS_, R_celln → kC_, R_alloc → k1_, R_drewN → k2_, R_drew → k3_, C_below → k4_, R_lower → k5_, R_ne → k6_, own_blk → k7_
open Go.Proofs.YtfhffcefpnkllaaGreatDoorW.PrintWords.LeO renaming none → l0_, bind → l1_, ite → l2_, refl → l3_
open World renaming block_lt_of_cell? → wB_
open _root_.Option renaming bind_eq_some_iff → oB_
open _root_.ByteArray renaming empty → eB_
open List renaming setIfInBounds_toArray → sA_, set_cons_zero → sB_, set_cons_succ → sC_, map_toArray → sD_, map_cons → sE_, map_nil → sF_, length_drop → sG_, length_take → sH_
open Bool renaming true → ty, false → fy
open Aside0 renaming mk → aM_
attribute [local go_sem] max2_int min2_int max_two min_two max_three min_three max_four min_four
def spec_l2PutA.l0 : Nat → List ByteArray → ByteArray → Int → Option (List ByteArray)
 | 0, _, _, _ => none
 | k + 1, x0, x1, x5 => if x5 < (x0.length : Int) then (if 0 ≤ x5 then ((spec_l2Before.f k (rdOf eB_ x0 x5) x1).bind fun t171 => (if t171 = true then (spec_l2PutA.l0 k x0 x1 (wrap64 (x5 + 1))) else (if (rdOf eB_ x0 x5).toList = x1.toList then (none) else (if x5 ≤ (x0.length : Int) then ((spec_l2Own.f (x0.take (x5 : Int).toNat)).bind fun t174 => ((some (([x1] : List ByteArray) : List ByteArray)).bind fun y177 => (if t174.length + y177.length < 8796093022208 then ((some (t174 ++ y177 : List ByteArray)).bind fun y180 => (if y180.length + (x0.drop (x5 : Int).toNat).length < 8796093022208 then (some (y180 ++ (x0.drop (x5 : Int).toNat))) else (none))) else (none)))) else (none))))) else (none)) else (if 0 ≤ x5 then (if x5 ≤ (x0.length : Int) then ((spec_l2Own.f (x0.take (x5 : Int).toNat)).bind fun t188 => ((some (([x1] : List ByteArray) : List ByteArray)).bind fun y191 => (if t188.length + y191.length < 8796093022208 then ((some (t188 ++ y191 : List ByteArray)).bind fun y194 => (if y194.length + (x0.drop (x5 : Int).toNat).length < 8796093022208 then (some (y194 ++ (x0.drop (x5 : Int).toNat))) else (none))) else (none)))) else (none)) else (none))
def spec_l2PutA.f (k : Nat) (l0 : List ByteArray) (a1 : ByteArray) : Option (List ByteArray) := spec_l2PutA.l0 k l0 a1 0
theorem spec_l2PutA.mono_l : ∀ k, (∀ y0 y1 y2, LeO (spec_l2PutA.l0 k y0 y1 y2) (spec_l2PutA.l0 (k + 1) y0 y1 y2))
 | 0 => fun _ _ _ r h => by simp [spec_l2PutA.l0] at h
 | k + 1 => by
  have ih0 := spec_l2PutA.mono_l k
  ·
   intro y0 y1 y2
   unfold spec_l2PutA.l0
   repeat' with_reducible first | exact ih0 _ _ _ | exact spec_l2Before.mono _ _ _ | exact l3_ _ | exact l0_ _ | refine l2_ ?_ ?_ | refine l1_ ?_ (fun _ => ?_)
theorem spec_l2PutA.mono : ∀ a0 a1 k, LeO (spec_l2PutA.f k a0 a1) (spec_l2PutA.f (k + 1) a0 a1) := by
 intro a0 a1 k
 have ih0 := spec_l2PutA.mono_l k
 unfold spec_l2PutA.f
 repeat' with_reducible first | exact ih0 _ _ _ | exact spec_l2Before.mono _ _ _ | exact l3_ _ | exact l0_ _ | refine l2_ ?_ ?_ | refine l1_ ?_ (fun _ => ?_)
def spec_l2PutA.T6 : Bool × List (List Nat × List Nat) := (true, [([], []), ([], []), ([0, 1], [0, 1]), ([2], [2]), ([], []), ([4], [4]), ([3, 5, 3], [3, 5]), ([], []), ([], []), ([7, 8], [7, 8]), ([6, 9, 6], [6, 9]), ([10, 10, 0, 1, 2, 3, 4, 5, 6, 7, 8, 9, 10], [10])])
def spec_l2PutA.B6 : List Nat := [0, 0, 3, 7, 0, 16, 63, 0, 0, 384, 1023, 2047]
theorem spec_l2PutA.tab6 : rtab .any (opsOf Tryz.f73 6) = spec_l2PutA.T6 := by kernel_rfl
theorem spec_l2PutA.bits6 : waitsOk spec_l2PutA.T6.2 spec_l2PutA.B6 = true := by kernel_rfl
theorem spec_l2PutA.calls (k : Nat) (A0 : Option Addr) (c0 : Nat) (l0 : List ByteArray) (a1 : ByteArray) (r : List ByteArray) (w : World) (hr0 : Kd.C Kd.string w A0 l0.length l0) (hc0 : l0.length ≤ c0) (h : spec_l2PutA.f k l0 a1 = some r) :
  Calls Tryz.prog 73 #[.slice A0 l0.length c0, .string a1] w fun e w' => ∃ v0_ : Value, e = .returned (v0_) ∧ Kd.R Kd.string 9 w' w.heap.size (fun _ => True) v0_ r ∧ Below w.heap.size w w' := by
 have HR0 := aM_ hr0
 have HC0 := aM_ hc0
 clear hr0 hc0
 have HB := aM_ (Below.refl w.heap.size w)
 have H : (spec_l2PutA.l0 k l0 a1 0) = some r := h
 clear h
 have H' := aM_ H
 clear H
 go_enter Tryz.func73, Tryz.ntmps73
 go_wp2
 go_loopg [5] k (fun kq v5 w' => ∃ (x5_1 : Int), v5 = .int .i64 x5_1 ∧ Aside0 (spec_l2PutA.l0 kq l0 a1 x5_1 = some r) ∧ Aside0 (kq ≤ k) ∧ Aside0 (Below w.heap.size w w'))
 case atStart => exact ⟨(0), (by rfl), H', ⟨Nat.le_refl _⟩, ⟨HB.out⟩⟩
 case round =>
  clear H'
  try clear p2
  obtain ⟨x5_1, rfl, HA, HK1, HB⟩ := hrel
  cases gk with
  | zero => exact absurd HA.out (by simp [spec_l2PutA.l0])
  | succ k1 =>
   have H := HA.out
   clear HA
   simp only [spec_l2PutA.l0] at H
   by_cases c3 : x5_1 < (l0.length : Int)
   ·
    rw [if_pos c3] at H
    have c3b0 := decide_eq_true c3
    clear c3
    by_cases c4 : 0 ≤ x5_1
    ·
     rw [if_pos c4] at H
     have c4b0 := decide_eq_true c4
     clear c4
     replace H := oB_.mp H
     obtain ⟨t171, A50, H⟩ := H
     try dsimp only at H
     have A5 := aM_ A50
     clear A50
     by_cases c6 : t171 = true
     ·
      subst c6
      rw [if_pos rfl] at H
      have H' := aM_ H
      clear H
      have p170 : 0 ≤ (x5_1 : Int) := of_decide_eq_true ‹_›
      have q170 : x5_1 < (l0.length : Int) := of_decide_eq_true ‹_›
      obtain ⟨ad170, e170, hx170_0⟩ := Kd.at_string HR0.out x5_1 p170 q170
      cases e170
      replace hx170_0 := (HB.out.cell (wB_ w _ hx170_0)).trans hx170_0
      replace p170 := eq_true p170
      replace q170 := eq_true q170
      go_wp2_with (first | (go_at_call 90; (with_reducible refine (spec_l2Before.calls k1 (rdOf eB_ l0 x5_1) a1 true _ A5.out).mono ?_); rintro e w' ⟨rfl, ⟨nd, rfl⟩⟩))
      go_roundg k1
      case measure => have := HK1.out; omega
      case rel => exact ⟨(wrap64 (x5_1 + 1)), (by rfl), H', ⟨by have := HK1.out; omega⟩, ⟨by repeat (first | (with_reducible first | exact HB.out | apply bA_ | apply bN_ | apply bD_) | exact HB.out)⟩⟩
     ·
      replace c6 := Bool.eq_false_iff.mpr c6
      subst c6
      replace H : (if (rdOf eB_ l0 x5_1).toList = a1.toList then (none) else (if x5_1 ≤ (l0.length : Int) then ((spec_l2Own.f (l0.take (x5_1 : Int).toNat)).bind fun t174 => ((some (([a1] : List ByteArray) : List ByteArray)).bind fun y177 => (if t174.length + y177.length < 8796093022208 then ((some (t174 ++ y177 : List ByteArray)).bind fun y180 => (if y180.length + (l0.drop (x5_1 : Int).toNat).length < 8796093022208 then (some (y180 ++ (l0.drop (x5_1 : Int).toNat))) else (none))) else (none)))) else (none))) = some r := by rw [if_neg (show ¬ (false = true) by decide)] at H; exact H
      by_cases c7 : (rdOf eB_ l0 x5_1).toList = a1.toList
      ·
       rw [if_pos c7] at H
       exact absurd H (by simp)
      ·
       rw [if_neg c7] at H
       have c7b0 : ((rdOf eB_ l0 x5_1).toList == a1.toList) = false := beq_eq_false_iff_ne.mpr c7
       have c7b1 : ((rdOf eB_ l0 x5_1).toList != a1.toList) = true := bne_iff_ne.mpr c7
       have c8b0 := eq_true (of_decide_eq_true ‹_› : 0 ≤ x5_1)
       by_cases c9 : x5_1 ≤ (l0.length : Int)
       ·
        rw [if_pos c9] at H
        have c9b0 := eq_true c9
        have c9b1 := decide_eq_true c9
        clear c9
        replace H := oB_.mp H
        obtain ⟨t174, A100, H⟩ := H
        try dsimp only at H
        have A10 := aM_ A100
        clear A100
        obtain ⟨y177, hy177⟩ : ∃ y_ : List ByteArray, y_ = (([a1] : List ByteArray)) := ⟨_, rfl⟩
        replace H : (if t174.length + y177.length < 8796093022208 then ((some (t174 ++ y177 : List ByteArray)).bind fun y180 => (if y180.length + (l0.drop (x5_1 : Int).toNat).length < 8796093022208 then (some (y180 ++ (l0.drop (x5_1 : Int).toNat))) else (none))) else (none)) = some r := by first | (rw [hy177]; with_reducible exact H) | (have H2_ := (Option.bind_some _ _).symm.trans H; rw [hy177]; with_reducible exact H2_) | (have H2_ := (Option.bind_some _ _).symm.trans H; with_reducible exact H2_) | with_reducible exact H | (rw [hy177]; exact H) | exact H
        have Ny177 := aM_ hy177
        clear hy177
        by_cases c11 : t174.length + y177.length < 8796093022208
        ·
         rw [if_pos c11] at H
         have LMc11 := aM_ c11
         clear c11
         obtain ⟨y180, hy180⟩ : ∃ y_ : List ByteArray, y_ = (t174 ++ y177) := ⟨_, rfl⟩
         replace H : (if y180.length + (l0.drop (x5_1 : Int).toNat).length < 8796093022208 then (some (y180 ++ (l0.drop (x5_1 : Int).toNat))) else (none)) = some r := by first | (rw [hy180]; with_reducible exact H) | (have H2_ := (Option.bind_some _ _).symm.trans H; rw [hy180]; with_reducible exact H2_) | (have H2_ := (Option.bind_some _ _).symm.trans H; with_reducible exact H2_) | with_reducible exact H | (rw [hy180]; exact H) | exact H
         have Ny180 := aM_ hy180
         clear hy180
         have c12b0 := eq_true (of_decide_eq_true ‹_› : 0 ≤ x5_1)
         have c13b0 := eq_true (of_decide_eq_true ‹_› : x5_1 ≤ (l0.length : Int))
         by_cases c14 : y180.length + (l0.drop (x5_1 : Int).toNat).length < 8796093022208
         ·
          rw [if_pos c14] at H
          have LMc14 := aM_ c14
          clear c14
          obtain ⟨y184, hy184⟩ : ∃ y_ : List ByteArray, y_ = (y180 ++ (l0.drop (x5_1 : Int).toNat)) := ⟨_, rfl⟩
          replace H : (some y184) = some r := by first | (rw [hy184]; with_reducible exact H) | (have H2_ := (Option.bind_some _ _).symm.trans H; rw [hy184]; with_reducible exact H2_) | (have H2_ := (Option.bind_some _ _).symm.trans H; with_reducible exact H2_) | with_reducible exact H | (rw [hy184]; exact H) | exact H
          have Ny184 := aM_ hy184
          clear hy184
          obtain rfl := Option.some.inj H
          have p170 : 0 ≤ (x5_1 : Int) := of_decide_eq_true ‹_›
          have q170 : x5_1 < (l0.length : Int) := of_decide_eq_true ‹_›
          obtain ⟨ad170, e170, hx170_0⟩ := Kd.at_string HR0.out x5_1 p170 q170
          cases e170
          replace hx170_0 := (HB.out.cell (wB_ w _ hx170_0)).trans hx170_0
          replace p170 := eq_true p170
          replace q170 := eq_true q170
          try go_wp2_with (first | (go_at_call 90; (with_reducible refine (spec_l2Before.calls k1 (rdOf eB_ l0 x5_1) a1 false _ A5.out).mono ?_); rintro e w' ⟨rfl, ⟨nd, rfl⟩⟩; have p172 : 0 ≤ (x5_1 : Int) := of_decide_eq_true ‹_›; have q172 : x5_1 < (l0.length : Int) := of_decide_eq_true ‹_›; obtain ⟨ad172, e172, hx172_0⟩ := Kd.at_string HR0.out x5_1 p172 q172; obtain rfl : ad170 = ad172 := (by injection e172); replace hx172_0 := (HB.out.cell (wB_ w _ hx172_0)).trans hx172_0; replace p172 := eq_true p172; replace q172 := eq_true q172))
          (try (rw [drewN_self wr]; generalize hq_ : World.drewN wr _ = wr; have n0_ : Aside0 (Below w.heap.size w wr) := ⟨by rw [← hq_]; exact (by repeat (first | (with_reducible first | exact HB.out | apply bA_ | apply bN_ | apply bD_) | exact HB.out))⟩; clear HB hq_; have HB := n0_; clear n0_))
          replace HB := aM_ (bD_ HB.out)
          obtain ⟨i016, hi016, _, hsz16, _⟩ := info_parts info9
          obtain ⟨hcut16, hA16, hC16⟩ := print_take_of (P := Tryz.prog) Value.string (⟨#[]⟩ : ByteArray) 49 9 .i64 Tryz.underlying49 hi016 hsz16 (some ad170) c0 l0 x5_1 (of_decide_eq_true ‹_›) (of_decide_eq_true ‹_›) HC0.out
          have HR173 := aM_ (Kd.C_of_reads (h1 := fun _ => rfl) (hA16 _ (Kd.reads_of_C HR0.out)))
          have HC173 := aM_ hC16
          clear hA16 hC16 hi016 hsz16
          obtain ⟨i017, hi017, _, hsz17, _⟩ := info_parts info9
          obtain ⟨A17, hcut17, hA17, hC17⟩ := print_drop_of (P := Tryz.prog) Value.string (⟨#[]⟩ : ByteArray) 49 9 .i64 Tryz.underlying49 hi017 hsz17 (some ad170) c0 l0 x5_1 (of_decide_eq_true ‹_›) (of_decide_eq_true ‹_›) HC0.out
          have HR183 := aM_ (Kd.C_of_reads (h1 := fun _ => rfl) (hA17 _ (Kd.reads_of_C HR0.out)))
          have HC183 := aM_ hC17
          clear hA17 hC17 hi017 hsz17
          refine start_ (n := 12) (S := fun w' => True) (ds := []) #[fy, fy, fy, fy, fy, fy, fy, fy, fy, fy, fy, fy] (by kernel_rfl) rfl rfl trivial (fun hHeld => ?_); refine with_tabW spec_l2PutA.tab6 spec_l2PutA.bits6 (fun HT_ HW_ => ?_)
          generalize wr.drew = w15 at HB HR173 HR183 hHeld ⊢
          refine pure_ (i := 0) (N := some 33) (v := ?_) (a' := ?_) #[ty, fy, fy, fy, fy, fy, fy, fy, fy, fy, fy, fy] rfl rfl (aO_ HT_.out (by kernel_rfl)) (fun _ _ _ h => h) (Or.inl ⟨by rfl, ?_⟩) ?_ ?_; rotate_left; (intro w'; go_simp; with_reducible rfl); rotate_left; (simp only [Act.put, sA_, sB_, sC_, i6_, i3_]; rfl)
          refine pure_ (i := 1) (N := some 34) (v := ?_) (a' := ?_) #[ty, ty, fy, fy, fy, fy, fy, fy, fy, fy, fy, fy] rfl rfl (aO_ HT_.out (by kernel_rfl)) (fun _ _ _ h => h) (Or.inl ⟨by rfl, ?_⟩) ?_ ?_; rotate_left; (intro w'; go_simp; with_reducible rfl); rotate_left; (simp only [Act.put, sA_, sB_, sC_, i6_, i3_]; rfl)
          refine pure_ (i := 2) (N := some 35) (v := ?_) (a' := ?_) #[ty, ty, ty, fy, fy, fy, fy, fy, fy, fy, fy, fy] rfl rfl (aO_ HT_.out (by kernel_rfl)) (fun _ _ _ h => h) (Or.inl ⟨by rfl, ?_⟩) ?_ ?_; rotate_left; (intro w'; go_simp; with_reducible rfl); rotate_left; (simp only [Act.put, sA_, sB_, sC_, i6_, i3_]; rfl)
          refine pure_ (i := 4) (N := some 37) (v := ?_) (a' := ?_) #[ty, ty, ty, fy, ty, fy, fy, fy, fy, fy, fy, fy] rfl rfl (aO_ HT_.out (by kernel_rfl)) (fun _ _ _ h => h) (Or.inl ⟨by rfl, ?_⟩) ?_ ?_; rotate_left; (intro w'; go_simp; with_reducible rfl); rotate_left; (simp only [Act.put, sA_, sB_, sC_, i6_, i3_]; rfl)
          refine pure_ (i := 7) (N := some 40) (v := ?_) (a' := ?_) #[ty, ty, ty, fy, ty, fy, fy, ty, fy, fy, fy, fy] rfl rfl (aO_ HT_.out (by kernel_rfl)) (fun _ _ _ h => h) (Or.inl ⟨by rfl, ?_⟩) ?_ ?_; rotate_left; (intro w'; go_simp; with_reducible rfl); rotate_left; (simp only [Act.put, sA_, sB_, sC_, i6_, i3_]; rfl)
          refine pure_ (i := 8) (N := some 41) (v := ?_) (a' := ?_) #[ty, ty, ty, fy, ty, fy, fy, ty, ty, fy, fy, fy] rfl rfl (aO_ HT_.out (by kernel_rfl)) (fun _ _ _ h => h) (Or.inl ⟨by rfl, ?_⟩) ?_ ?_; rotate_left; (intro w'; go_simp; with_reducible rfl); rotate_left; (simp only [Act.put, sA_, sB_, sC_, i6_, i3_]; rfl)
          refine pure_ (i := 9) (N := some 42) (v := ?_) (a' := ?_) #[ty, ty, ty, fy, ty, fy, fy, ty, ty, ty, fy, fy] rfl rfl (aO_ HT_.out (by kernel_rfl)) (fun _ _ _ h => h) (Or.inl ⟨by rfl, ?_⟩) ?_ ?_; rotate_left; (intro w'; go_simp; with_reducible rfl); rotate_left; (simp only [Act.put, sA_, sB_, sC_, i6_, i3_]; rfl)
          refine join_ (σ := Value × Value) 3 #[ty, ty, ty, ty, ty, ty, fy, ty, ty, ty, fy, fy] (fun s_ => [(36, s_.1), (38, s_.2)]) (fun s_ w' => (Kd.R Kd.string 9 w' w.heap.size (fun k_ => some k_ ≠ (s_.2 : Value).ownBlock) s_.1 t174) ∧ (Kd.R Kd.string 9 w' w.heap.size (fun k_ => some k_ ≠ (s_.1 : Value).ownBlock) s_.2 y177) ∧ (Below w.heap.size w w')) ?_ ?_
          rotate_left
          ·
           intro hCont
           refine two_ (i := 3) (j := 5) (Ni := some 36) (Nj := some 38) #[ty, ty, ty, ty, ty, fy, fy, ty, ty, ty, fy, fy] #[ty, ty, ty, fy, ty, ty, fy, ty, ty, ty, fy, fy] rfl rfl rfl rfl (two_of HT_.out (by kernel_rfl)) (by decide) (by decide) (fun K hK => ?_) (fun K hK => ?_)
           ·
            skip
            refine goes_ Tryz.func78 (by kernel_rfl) rfl #[.slice (some ad170) (l0.take (x5_1 : Int).toNat).length c0] (by rfl) rfl rfl (by (try simp only [sD_, sE_, sF_]); (rw [show (l0.take (x5_1 : Int).toNat).length = x5_1.toNat from (by rw [List.length_take]; have h_ : (x5_1 : Int) ≤ (l0.length : Int) := of_decide_eq_true ‹_›; omega)] <;> rfl)) ?_
            with_reducible refine (spec_l2Own.calls _ _ (l0.take (x5_1 : Int).toNat) t174 _ ?side1 ?side2 A10.out).mono ?_
            (case side1 => repeat (first | exact (k4_ HR173.out HB.out) | (with_reducible refine Kd.C_alloc ?_ _) | (with_reducible refine Kd.C_drewN ?_ _) | (with_reducible refine Kd.C_drew ?_)))
            (case side2 => exact HC173.out)
            rintro e w18 ⟨v175, rfl, ho0, hb⟩
            refine ⟨_, rfl, ?_⟩
            have n0_ := aM_ (k5_ ho0 (bZ_ HB.out))
            have n1_ := aM_ (bT_ HB.out hb)
            clear HB
            have HO176 := n0_
            have HB := n1_
            clear n0_ n1_
            (try clear hb)
            (try clear ho0)
            refine hK.out _ _ trivial (fun hHeld => ?_)
            clear hK K
            refine norm_ (a' := ?_) ?_ ?_; rotate_left; (show Act.put _ (some 36) _ = _; simp only [Act.put, sA_, sB_, sC_, i6_, i3_]; rfl)
            refine one_ (i := 5) (N := some 38) #[ty, ty, ty, ty, ty, ty, fy, ty, ty, ty, fy, fy] rfl rfl (one_of HT_.out (by kernel_rfl)) (by decide) (fun K hK => ?_)
            refine Kd.R_lit_step Kd.string _ 9 ?hg (N := 38) ?hd (xs := ([a1] : List ByteArray)) (inner := [.string a1]) (ok := fun _ => True) (okp := fun _ => True) ?hr ?hp (fun _ hk => hk) trivial (Below.refl _ _) (Nat.le_refl _) (by simp) ?_; (case hd => rfl); (case hg => rfl); (case hr => (go_simp; done)); (case hp => exact (Reps.one (show Kd.M Kd.string _ _ _ a1 [.string a1] from rfl) (Reps.none _ _)))
            intro v178 w19 ho20 hb hg_ hnew_
            clear hg_ hnew_
            (rw [← Ny177.out] at ho20)
            have n0_ := aM_ (Kd.R_elder' HO176.out (Kd.R_base ho20) hb)
            have n1_ := aM_ (k5_ (Kd.R_new' ho20 (Kd.R_lt HO176.out)) (bZ_ HB.out))
            have n2_ := aM_ (bT_ HB.out hb)
            clear HO176
            clear HB
            have HO176 := n0_
            have HO179 := n1_
            have HB := n2_
            clear n0_ n1_ n2_
            clear hb ho20
            refine hK.out _ _ trivial (fun hHeld => ?_)
            clear hK K
            refine norm_ (a' := ?_) ?_ ?_; rotate_left; (show Act.put _ (some 38) _ = _; simp only [Act.put, sA_, sB_, sC_, i6_, i3_]; rfl)
            exact norm_ (by simp only [putAll, Act.put, sA_, sB_, sC_]) (hCont (v175, v178) _ ⟨(by exact kM_ HO176.out (fun _ hk => hk.2)), (by exact kM_ HO179.out (fun _ hk => hk.2)), HB.out⟩)
           ·
            skip
            refine Kd.R_lit_step Kd.string _ 9 ?hg (N := 38) ?hd (xs := ([a1] : List ByteArray)) (inner := [.string a1]) (ok := fun _ => True) (okp := fun _ => True) ?hr ?hp (fun _ hk => hk) trivial (Below.refl _ _) (Nat.le_refl _) (by simp) ?_; (case hd => rfl); (case hg => rfl); (case hr => (go_simp; done)); (case hp => exact (Reps.one (show Kd.M Kd.string _ _ _ a1 [.string a1] from rfl) (Reps.none _ _)))
            intro v178 w18 ho19 hb hg_ hnew_
            clear hg_ hnew_
            (rw [← Ny177.out] at ho19)
            have n0_ := aM_ (k5_ ho19 (bZ_ HB.out))
            have n1_ := aM_ (bT_ HB.out hb)
            clear HB
            have HO179 := n0_
            have HB := n1_
            clear n0_ n1_
            clear hb ho19
            refine hK.out _ _ trivial (fun hHeld => ?_)
            clear hK K
            refine norm_ (a' := ?_) ?_ ?_; rotate_left; (show Act.put _ (some 38) _ = _; simp only [Act.put, sA_, sB_, sC_, i6_, i3_]; rfl)
            refine one_ (i := 3) (N := some 36) #[ty, ty, ty, ty, ty, ty, fy, ty, ty, ty, fy, fy] rfl rfl (one_of HT_.out (by kernel_rfl)) (by decide) (fun K hK => ?_)
            refine goes_ Tryz.func78 (by kernel_rfl) rfl #[.slice (some ad170) (l0.take (x5_1 : Int).toNat).length c0] (by rfl) rfl rfl (by (try simp only [sD_, sE_, sF_]); (rw [show (l0.take (x5_1 : Int).toNat).length = x5_1.toNat from (by rw [List.length_take]; have h_ : (x5_1 : Int) ≤ (l0.length : Int) := of_decide_eq_true ‹_›; omega)] <;> rfl)) ?_
            with_reducible refine (spec_l2Own.calls _ _ (l0.take (x5_1 : Int).toNat) t174 _ ?side1 ?side2 A10.out).mono ?_
            (case side1 => repeat (first | exact (k4_ HR173.out HB.out) | (with_reducible refine Kd.C_alloc ?_ _) | (with_reducible refine Kd.C_drewN ?_ _) | (with_reducible refine Kd.C_drew ?_)))
            (case side2 => exact HC173.out)
            rintro e w20 ⟨v175, rfl, ho0, hb⟩
            refine ⟨_, rfl, ?_⟩
            have n0_ := aM_ (Kd.R_elder' HO179.out (Kd.R_base ho0) hb)
            have n1_ := aM_ (k5_ (Kd.R_new' ho0 (Kd.R_lt HO179.out)) (bZ_ HB.out))
            have n2_ := aM_ (bT_ HB.out hb)
            clear HO179
            clear HB
            have HO179 := n0_
            have HO176 := n1_
            have HB := n2_
            clear n0_ n1_ n2_
            (try clear hb)
            (try clear ho0)
            refine hK.out _ _ trivial (fun hHeld => ?_)
            clear hK K
            refine norm_ (a' := ?_) ?_ ?_; rotate_left; (show Act.put _ (some 36) _ = _; simp only [Act.put, sA_, sB_, sC_, i6_, i3_]; rfl)
            exact norm_ (by simp only [putAll, Act.put, sA_, sB_, sC_]) (hCont (v175, v178) _ ⟨(by exact kM_ HO176.out (fun _ hk => hk.2)), (by exact kM_ HO179.out (fun _ hk => hk.2)), HB.out⟩)
          rintro ⟨v175, v178⟩ w21 ⟨h0_, h1_, h2_⟩
          have n0_ : Aside0 (Kd.R Kd.string 9 w21 w.heap.size (fun k_ => some k_ ≠ (v178 : Value).ownBlock) v175 t174) := ⟨h0_⟩
          have n1_ : Aside0 (Kd.R Kd.string 9 w21 w.heap.size (fun k_ => some k_ ≠ (v175 : Value).ownBlock) v178 y177) := ⟨h1_⟩
          have n2_ : Aside0 (Below w.heap.size w w21) := ⟨h2_⟩
          clear HB
          clear h0_ h1_ h2_
          have HO176 := n0_
          have HO179 := n1_
          have HB := n2_
          clear n0_ n1_ n2_
          have hHeld := trivial
          obtain ⟨Ao23, co23, eo23⟩ := kS_ HO179.out
          (subst eo23)
          refine norm_ (a' := ?_) ?_ ?_
          rotate_left
          ·
           simp only [putAll, Act.put, sA_, sB_, sC_]
           rfl
          refine one_ (i := 6) (N := some 39) #[ty, ty, ty, ty, ty, ty, ty, ty, ty, ty, fy, fy] rfl rfl (one_of HT_.out (by kernel_rfl)) (by decide) (fun K hK => ?_)
          refine Kd.R_append_rows_step Kd.string (w0 := w) w.heap.size (by rfl) (.tmp 36) (.tmp 38) 49 9 (.string ⟨#[]⟩) 16 rfl Tryz.underlying49 info9 rfl (by decide) (by omega) v175 t174 y177 _ _ _ (fun k_ => some k_ ≠ (.slice Ao23 y177.length co23 : Value).ownBlock) (fun _ => False) rfl rfl ?aO ?aR (fun _ _ h => h) (fun _ h => h.elim) ?aF ?aB ?aS ?aL ?_
          (case aR => repeat (first | exact (kR_ HO179.out).2.2 | (with_reducible refine Kd.C_alloc ?_ _) | (with_reducible refine Kd.C_drewN ?_ _) | (with_reducible refine Kd.C_drew ?_)))
          (case aB => exact HB.out)
          (case aF => exact (fun k_ hk => Kd.fresh' (Kd.R_lt HO179.out) k_ hk))
          (case aO => exact HO176.out)
          (case aS => exact (bZ_ HB.out))
          (case aL => have := LMc11.out; omega)
          intro v181 w22 ho hb hg hat
          rw [← Ny180.out] at ho
          have n0_ := aM_ (Kd.R_after (ok := (fun _ => True)) (by exact kM_ HO179.out (fun _ hk => ⟨trivial, hk⟩)) hg hat)
          have n1_ := aM_ (hb)
          have n2_ := aM_ (ho)
          clear HO179
          clear HB
          clear HO176
          have HO179 := n0_
          have HB := n1_
          have HO182 := n2_
          clear n0_ n1_ n2_
          clear ho hb hg hat
          refine hK.out _ _ trivial (fun hHeld => ?_)
          clear hK K
          refine norm_ (a' := ?_) ?_ ?_; rotate_left; (show Act.put _ (some 39) _ = _; simp only [Act.put, sA_, sB_, sC_, i6_, i3_]; rfl)
          refine one_ (i := 10) (N := some 43) #[ty, ty, ty, ty, ty, ty, ty, ty, ty, ty, ty, fy] rfl rfl (one_of HT_.out (by kernel_rfl)) (by decide) (fun K hK => ?_)
          refine Kd.R_append_rows_step Kd.string (w0 := w) w.heap.size (by rfl) (.tmp 39) (.tmp 42) 49 9 (.string ⟨#[]⟩) 16 rfl Tryz.underlying49 info9 rfl (by decide) (by omega) v181 y180 (l0.drop (x5_1 : Int).toNat) _ _ _ (fun k_ => some k_ ≠ (.slice Ao23 y177.length co23 : Value).ownBlock) (fun _ => False) rfl rfl ?aO ?aR (fun _ _ h => h) (fun _ h => h.elim) ?aF ?aB ?aS ?aL ?_
          (case aR => (rw [← show (l0.drop (x5_1 : Int).toNat).length = (l0.length - x5_1.toNat) from List.length_drop]; repeat (first | exact (k4_ HR183.out HB.out) | (with_reducible refine Kd.C_alloc ?_ _) | (with_reducible refine Kd.C_drewN ?_ _) | (with_reducible refine Kd.C_drew ?_))))
          (case aB => exact HB.out)
          (case aF => exact (fun k_ hk => Kd.fresh' (Kd.R_lt HO179.out) k_ hk))
          (case aO => exact HO182.out)
          (case aS => exact (bZ_ HB.out))
          (case aL => have := LMc14.out; have hlx_ := (show (l0.drop (x5_1 : Int).toNat).length = (l0.length - x5_1.toNat) from List.length_drop); omega)
          intro v185 w24 ho hb hg hat
          rw [← Ny184.out] at ho
          have n0_ := aM_ (Kd.R_after (ok := (fun _ => True)) HO179.out hg hat)
          have n1_ := aM_ (hb)
          have n2_ := aM_ (ho)
          clear HO179
          clear HB
          clear HO182
          have HO179 := n0_
          have HB := n1_
          have HO186 := n2_
          clear n0_ n1_ n2_
          clear ho hb hg hat
          refine hK.out _ _ trivial (fun hHeld => ?_)
          clear hK K
          refine norm_ (a' := ?_) ?_ ?_; rotate_left; (show Act.put _ (some 43) _ = _; simp only [Act.put, sA_, sB_, sC_, i6_, i3_]; rfl)
          refine pure_ (i := 11) (N := some 4) (v := ?_) (a' := ?_) #[ty, ty, ty, ty, ty, ty, ty, ty, ty, ty, ty, ty] rfl rfl (aO_ HT_.out (by kernel_rfl)) (fun _ _ _ h => h) (Or.inl ⟨by rfl, ?_⟩) ?_ ?_; rotate_left; (intro w'; go_simp; with_reducible rfl); rotate_left; (simp only [Act.put, sA_, sB_, sC_, i6_, i3_]; rfl)
          refine done_ (done_of HT_.out (by kernel_rfl)) ?_
          try go_wp2
          go_ret
          exact ⟨_, by rfl, by exact kM_ HO186.out (fun _ hk => trivial), by exact HB.out⟩
         ·
          rw [if_neg c14] at H
          exact absurd H (by simp)
        ·
         rw [if_neg c11] at H
         exact absurd H (by simp)
       ·
        rw [if_neg c9] at H
        exact absurd H (by simp)
    ·
     rw [if_neg c4] at H
     exact absurd H (by simp)
   ·
    rw [if_neg c3] at H
    have c3b0 := decide_eq_false c3
    clear c3
    by_cases c25 : 0 ≤ x5_1
    ·
     rw [if_pos c25] at H
     have c25b0 := eq_true c25
     have c25b1 := decide_eq_true c25
     clear c25
     by_cases c26 : x5_1 ≤ (l0.length : Int)
     ·
      rw [if_pos c26] at H
      have c26b0 := eq_true c26
      have c26b1 := decide_eq_true c26
      clear c26
      replace H := oB_.mp H
      obtain ⟨t188, A270, H⟩ := H
      try dsimp only at H
      have A27 := aM_ A270
      clear A270
      obtain ⟨y191, hy191⟩ : ∃ y_ : List ByteArray, y_ = (([a1] : List ByteArray)) := ⟨_, rfl⟩
      replace H : (if t188.length + y191.length < 8796093022208 then ((some (t188 ++ y191 : List ByteArray)).bind fun y194 => (if y194.length + (l0.drop (x5_1 : Int).toNat).length < 8796093022208 then (some (y194 ++ (l0.drop (x5_1 : Int).toNat))) else (none))) else (none)) = some r := by first | (rw [hy191]; with_reducible exact H) | (have H2_ := (Option.bind_some _ _).symm.trans H; rw [hy191]; with_reducible exact H2_) | (have H2_ := (Option.bind_some _ _).symm.trans H; with_reducible exact H2_) | with_reducible exact H | (rw [hy191]; exact H) | exact H
      have Ny191 := aM_ hy191
      clear hy191
      by_cases c28 : t188.length + y191.length < 8796093022208
      ·
       rw [if_pos c28] at H
       have LMc28 := aM_ c28
       clear c28
       obtain ⟨y194, hy194⟩ : ∃ y_ : List ByteArray, y_ = (t188 ++ y191) := ⟨_, rfl⟩
       replace H : (if y194.length + (l0.drop (x5_1 : Int).toNat).length < 8796093022208 then (some (y194 ++ (l0.drop (x5_1 : Int).toNat))) else (none)) = some r := by first | (rw [hy194]; with_reducible exact H) | (have H2_ := (Option.bind_some _ _).symm.trans H; rw [hy194]; with_reducible exact H2_) | (have H2_ := (Option.bind_some _ _).symm.trans H; with_reducible exact H2_) | with_reducible exact H | (rw [hy194]; exact H) | exact H
       have Ny194 := aM_ hy194
       clear hy194
       have c29b0 := eq_true (of_decide_eq_true ‹_› : 0 ≤ x5_1)
       have c30b0 := eq_true (of_decide_eq_true ‹_› : x5_1 ≤ (l0.length : Int))
       by_cases c31 : y194.length + (l0.drop (x5_1 : Int).toNat).length < 8796093022208
       ·
        rw [if_pos c31] at H
        have LMc31 := aM_ c31
        clear c31
        obtain ⟨y198, hy198⟩ : ∃ y_ : List ByteArray, y_ = (y194 ++ (l0.drop (x5_1 : Int).toNat)) := ⟨_, rfl⟩
        replace H : (some y198) = some r := by first | (rw [hy198]; with_reducible exact H) | (have H2_ := (Option.bind_some _ _).symm.trans H; rw [hy198]; with_reducible exact H2_) | (have H2_ := (Option.bind_some _ _).symm.trans H; with_reducible exact H2_) | with_reducible exact H | (rw [hy198]; exact H) | exact H
        have Ny198 := aM_ hy198
        clear hy198
        obtain rfl := Option.some.inj H
        try go_wp2
        replace HB := aM_ (bD_ HB.out)
        obtain ⟨i033, hi033, _, hsz33, _⟩ := info_parts info9
        obtain ⟨hcut33, hA33, hC33⟩ := print_take_of (P := Tryz.prog) Value.string (⟨#[]⟩ : ByteArray) 49 9 .i64 Tryz.underlying49 hi033 hsz33 A0 c0 l0 x5_1 (of_decide_eq_true ‹_›) (of_decide_eq_true ‹_›) HC0.out
        have HR187 := aM_ (Kd.C_of_reads (h1 := fun _ => rfl) (hA33 _ (Kd.reads_of_C HR0.out)))
        have HC187 := aM_ hC33
        clear hA33 hC33 hi033 hsz33
        obtain ⟨i034, hi034, _, hsz34, _⟩ := info_parts info9
        obtain ⟨A34, hcut34, hA34, hC34⟩ := print_drop_of (P := Tryz.prog) Value.string (⟨#[]⟩ : ByteArray) 49 9 .i64 Tryz.underlying49 hi034 hsz34 A0 c0 l0 x5_1 (of_decide_eq_true ‹_›) (of_decide_eq_true ‹_›) HC0.out
        have HR197 := aM_ (Kd.C_of_reads (h1 := fun _ => rfl) (hA34 _ (Kd.reads_of_C HR0.out)))
        have HC197 := aM_ hC34
        clear hA34 hC34 hi034 hsz34
        refine start_ (n := 12) (S := fun w' => True) (ds := []) #[fy, fy, fy, fy, fy, fy, fy, fy, fy, fy, fy, fy] (by kernel_rfl) rfl rfl trivial (fun hHeld => ?_); refine with_tabW spec_l2PutA.tab6 spec_l2PutA.bits6 (fun HT_ HW_ => ?_)
        generalize wr.drew = w32 at HB HR187 HR197 hHeld ⊢
        refine pure_ (i := 0) (N := some 33) (v := ?_) (a' := ?_) #[ty, fy, fy, fy, fy, fy, fy, fy, fy, fy, fy, fy] rfl rfl (aO_ HT_.out (by kernel_rfl)) (fun _ _ _ h => h) (Or.inl ⟨by rfl, ?_⟩) ?_ ?_; rotate_left; (intro w'; go_simp; with_reducible rfl); rotate_left; (simp only [Act.put, sA_, sB_, sC_, i6_, i3_]; rfl)
        refine pure_ (i := 1) (N := some 34) (v := ?_) (a' := ?_) #[ty, ty, fy, fy, fy, fy, fy, fy, fy, fy, fy, fy] rfl rfl (aO_ HT_.out (by kernel_rfl)) (fun _ _ _ h => h) (Or.inl ⟨by rfl, ?_⟩) ?_ ?_; rotate_left; (intro w'; go_simp; with_reducible rfl); rotate_left; (simp only [Act.put, sA_, sB_, sC_, i6_, i3_]; rfl)
        refine pure_ (i := 2) (N := some 35) (v := ?_) (a' := ?_) #[ty, ty, ty, fy, fy, fy, fy, fy, fy, fy, fy, fy] rfl rfl (aO_ HT_.out (by kernel_rfl)) (fun _ _ _ h => h) (Or.inl ⟨by rfl, ?_⟩) ?_ ?_; rotate_left; (intro w'; go_simp; with_reducible rfl); rotate_left; (simp only [Act.put, sA_, sB_, sC_, i6_, i3_]; rfl)
        refine pure_ (i := 4) (N := some 37) (v := ?_) (a' := ?_) #[ty, ty, ty, fy, ty, fy, fy, fy, fy, fy, fy, fy] rfl rfl (aO_ HT_.out (by kernel_rfl)) (fun _ _ _ h => h) (Or.inl ⟨by rfl, ?_⟩) ?_ ?_; rotate_left; (intro w'; go_simp; with_reducible rfl); rotate_left; (simp only [Act.put, sA_, sB_, sC_, i6_, i3_]; rfl)
        refine pure_ (i := 7) (N := some 40) (v := ?_) (a' := ?_) #[ty, ty, ty, fy, ty, fy, fy, ty, fy, fy, fy, fy] rfl rfl (aO_ HT_.out (by kernel_rfl)) (fun _ _ _ h => h) (Or.inl ⟨by rfl, ?_⟩) ?_ ?_; rotate_left; (intro w'; go_simp; with_reducible rfl); rotate_left; (simp only [Act.put, sA_, sB_, sC_, i6_, i3_]; rfl)
        refine pure_ (i := 8) (N := some 41) (v := ?_) (a' := ?_) #[ty, ty, ty, fy, ty, fy, fy, ty, ty, fy, fy, fy] rfl rfl (aO_ HT_.out (by kernel_rfl)) (fun _ _ _ h => h) (Or.inl ⟨by rfl, ?_⟩) ?_ ?_; rotate_left; (intro w'; go_simp; with_reducible rfl); rotate_left; (simp only [Act.put, sA_, sB_, sC_, i6_, i3_]; rfl)
        refine pure_ (i := 9) (N := some 42) (v := ?_) (a' := ?_) #[ty, ty, ty, fy, ty, fy, fy, ty, ty, ty, fy, fy] rfl rfl (aO_ HT_.out (by kernel_rfl)) (fun _ _ _ h => h) (Or.inl ⟨by rfl, ?_⟩) ?_ ?_; rotate_left; (intro w'; go_simp; with_reducible rfl); rotate_left; (simp only [Act.put, sA_, sB_, sC_, i6_, i3_]; rfl)
        refine join_ (σ := Value × Value) 3 #[ty, ty, ty, ty, ty, ty, fy, ty, ty, ty, fy, fy] (fun s_ => [(36, s_.1), (38, s_.2)]) (fun s_ w' => (Kd.R Kd.string 9 w' w.heap.size (fun k_ => some k_ ≠ (s_.2 : Value).ownBlock) s_.1 t188) ∧ (Kd.R Kd.string 9 w' w.heap.size (fun k_ => some k_ ≠ (s_.1 : Value).ownBlock) s_.2 y191) ∧ (Below w.heap.size w w')) ?_ ?_
        rotate_left
        ·
         intro hCont
         refine two_ (i := 3) (j := 5) (Ni := some 36) (Nj := some 38) #[ty, ty, ty, ty, ty, fy, fy, ty, ty, ty, fy, fy] #[ty, ty, ty, fy, ty, ty, fy, ty, ty, ty, fy, fy] rfl rfl rfl rfl (two_of HT_.out (by kernel_rfl)) (by decide) (by decide) (fun K hK => ?_) (fun K hK => ?_)
         ·
          skip
          refine goes_ Tryz.func78 (by kernel_rfl) rfl #[.slice A0 (l0.take (x5_1 : Int).toNat).length c0] (by rfl) rfl rfl (by (try simp only [sD_, sE_, sF_]); (rw [show (l0.take (x5_1 : Int).toNat).length = x5_1.toNat from (by rw [List.length_take]; have h_ : (x5_1 : Int) ≤ (l0.length : Int) := of_decide_eq_true ‹_›; omega)] <;> rfl)) ?_
          with_reducible refine (spec_l2Own.calls _ _ (l0.take (x5_1 : Int).toNat) t188 _ ?side1 ?side2 A27.out).mono ?_
          (case side1 => repeat (first | exact (k4_ HR187.out HB.out) | (with_reducible refine Kd.C_alloc ?_ _) | (with_reducible refine Kd.C_drewN ?_ _) | (with_reducible refine Kd.C_drew ?_)))
          (case side2 => exact HC187.out)
          rintro e w35 ⟨v189, rfl, ho0, hb⟩
          refine ⟨_, rfl, ?_⟩
          have n0_ := aM_ (k5_ ho0 (bZ_ HB.out))
          have n1_ := aM_ (bT_ HB.out hb)
          clear HB
          have HO190 := n0_
          have HB := n1_
          clear n0_ n1_
          (try clear hb)
          (try clear ho0)
          refine hK.out _ _ trivial (fun hHeld => ?_)
          clear hK K
          refine norm_ (a' := ?_) ?_ ?_; rotate_left; (show Act.put _ (some 36) _ = _; simp only [Act.put, sA_, sB_, sC_, i6_, i3_]; rfl)
          refine one_ (i := 5) (N := some 38) #[ty, ty, ty, ty, ty, ty, fy, ty, ty, ty, fy, fy] rfl rfl (one_of HT_.out (by kernel_rfl)) (by decide) (fun K hK => ?_)
          refine Kd.R_lit_step Kd.string _ 9 ?hg (N := 38) ?hd (xs := ([a1] : List ByteArray)) (inner := [.string a1]) (ok := fun _ => True) (okp := fun _ => True) ?hr ?hp (fun _ hk => hk) trivial (Below.refl _ _) (Nat.le_refl _) (by simp) ?_; (case hd => rfl); (case hg => rfl); (case hr => (go_simp; done)); (case hp => exact (Reps.one (show Kd.M Kd.string _ _ _ a1 [.string a1] from rfl) (Reps.none _ _)))
          intro v192 w36 ho37 hb hg_ hnew_
          clear hg_ hnew_
          (rw [← Ny191.out] at ho37)
          have n0_ := aM_ (Kd.R_elder' HO190.out (Kd.R_base ho37) hb)
          have n1_ := aM_ (k5_ (Kd.R_new' ho37 (Kd.R_lt HO190.out)) (bZ_ HB.out))
          have n2_ := aM_ (bT_ HB.out hb)
          clear HO190
          clear HB
          have HO190 := n0_
          have HO193 := n1_
          have HB := n2_
          clear n0_ n1_ n2_
          clear hb ho37
          refine hK.out _ _ trivial (fun hHeld => ?_)
          clear hK K
          refine norm_ (a' := ?_) ?_ ?_; rotate_left; (show Act.put _ (some 38) _ = _; simp only [Act.put, sA_, sB_, sC_, i6_, i3_]; rfl)
          exact norm_ (by simp only [putAll, Act.put, sA_, sB_, sC_]) (hCont (v189, v192) _ ⟨(by exact kM_ HO190.out (fun _ hk => hk.2)), (by exact kM_ HO193.out (fun _ hk => hk.2)), HB.out⟩)
         ·
          skip
          refine Kd.R_lit_step Kd.string _ 9 ?hg (N := 38) ?hd (xs := ([a1] : List ByteArray)) (inner := [.string a1]) (ok := fun _ => True) (okp := fun _ => True) ?hr ?hp (fun _ hk => hk) trivial (Below.refl _ _) (Nat.le_refl _) (by simp) ?_; (case hd => rfl); (case hg => rfl); (case hr => (go_simp; done)); (case hp => exact (Reps.one (show Kd.M Kd.string _ _ _ a1 [.string a1] from rfl) (Reps.none _ _)))
          intro v192 w35 ho36 hb hg_ hnew_
          clear hg_ hnew_
          (rw [← Ny191.out] at ho36)
          have n0_ := aM_ (k5_ ho36 (bZ_ HB.out))
          have n1_ := aM_ (bT_ HB.out hb)
          clear HB
          have HO193 := n0_
          have HB := n1_
          clear n0_ n1_
          clear hb ho36
          refine hK.out _ _ trivial (fun hHeld => ?_)
          clear hK K
          refine norm_ (a' := ?_) ?_ ?_; rotate_left; (show Act.put _ (some 38) _ = _; simp only [Act.put, sA_, sB_, sC_, i6_, i3_]; rfl)
          refine one_ (i := 3) (N := some 36) #[ty, ty, ty, ty, ty, ty, fy, ty, ty, ty, fy, fy] rfl rfl (one_of HT_.out (by kernel_rfl)) (by decide) (fun K hK => ?_)
          refine goes_ Tryz.func78 (by kernel_rfl) rfl #[.slice A0 (l0.take (x5_1 : Int).toNat).length c0] (by rfl) rfl rfl (by (try simp only [sD_, sE_, sF_]); (rw [show (l0.take (x5_1 : Int).toNat).length = x5_1.toNat from (by rw [List.length_take]; have h_ : (x5_1 : Int) ≤ (l0.length : Int) := of_decide_eq_true ‹_›; omega)] <;> rfl)) ?_
          with_reducible refine (spec_l2Own.calls _ _ (l0.take (x5_1 : Int).toNat) t188 _ ?side1 ?side2 A27.out).mono ?_
          (case side1 => repeat (first | exact (k4_ HR187.out HB.out) | (with_reducible refine Kd.C_alloc ?_ _) | (with_reducible refine Kd.C_drewN ?_ _) | (with_reducible refine Kd.C_drew ?_)))
          (case side2 => exact HC187.out)
          rintro e w37 ⟨v189, rfl, ho0, hb⟩
          refine ⟨_, rfl, ?_⟩
          have n0_ := aM_ (Kd.R_elder' HO193.out (Kd.R_base ho0) hb)
          have n1_ := aM_ (k5_ (Kd.R_new' ho0 (Kd.R_lt HO193.out)) (bZ_ HB.out))
          have n2_ := aM_ (bT_ HB.out hb)
          clear HO193
          clear HB
          have HO193 := n0_
          have HO190 := n1_
          have HB := n2_
          clear n0_ n1_ n2_
          (try clear hb)
          (try clear ho0)
          refine hK.out _ _ trivial (fun hHeld => ?_)
          clear hK K
          refine norm_ (a' := ?_) ?_ ?_; rotate_left; (show Act.put _ (some 36) _ = _; simp only [Act.put, sA_, sB_, sC_, i6_, i3_]; rfl)
          exact norm_ (by simp only [putAll, Act.put, sA_, sB_, sC_]) (hCont (v189, v192) _ ⟨(by exact kM_ HO190.out (fun _ hk => hk.2)), (by exact kM_ HO193.out (fun _ hk => hk.2)), HB.out⟩)
        rintro ⟨v189, v192⟩ w38 ⟨h0_, h1_, h2_⟩
        have n0_ : Aside0 (Kd.R Kd.string 9 w38 w.heap.size (fun k_ => some k_ ≠ (v192 : Value).ownBlock) v189 t188) := ⟨h0_⟩
        have n1_ : Aside0 (Kd.R Kd.string 9 w38 w.heap.size (fun k_ => some k_ ≠ (v189 : Value).ownBlock) v192 y191) := ⟨h1_⟩
        have n2_ : Aside0 (Below w.heap.size w w38) := ⟨h2_⟩
        clear HB
        clear h0_ h1_ h2_
        have HO190 := n0_
        have HO193 := n1_
        have HB := n2_
        clear n0_ n1_ n2_
        have hHeld := trivial
        obtain ⟨Ao40, co40, eo40⟩ := kS_ HO193.out
        (subst eo40)
        refine norm_ (a' := ?_) ?_ ?_
        rotate_left
        ·
         simp only [putAll, Act.put, sA_, sB_, sC_]
         rfl
        refine one_ (i := 6) (N := some 39) #[ty, ty, ty, ty, ty, ty, ty, ty, ty, ty, fy, fy] rfl rfl (one_of HT_.out (by kernel_rfl)) (by decide) (fun K hK => ?_)
        refine Kd.R_append_rows_step Kd.string (w0 := w) w.heap.size (by rfl) (.tmp 36) (.tmp 38) 49 9 (.string ⟨#[]⟩) 16 rfl Tryz.underlying49 info9 rfl (by decide) (by omega) v189 t188 y191 _ _ _ (fun k_ => some k_ ≠ (.slice Ao40 y191.length co40 : Value).ownBlock) (fun _ => False) rfl rfl ?aO ?aR (fun _ _ h => h) (fun _ h => h.elim) ?aF ?aB ?aS ?aL ?_
        (case aR => repeat (first | exact (kR_ HO193.out).2.2 | (with_reducible refine Kd.C_alloc ?_ _) | (with_reducible refine Kd.C_drewN ?_ _) | (with_reducible refine Kd.C_drew ?_)))
        (case aB => exact HB.out)
        (case aF => exact (fun k_ hk => Kd.fresh' (Kd.R_lt HO193.out) k_ hk))
        (case aO => exact HO190.out)
        (case aS => exact (bZ_ HB.out))
        (case aL => have := LMc28.out; omega)
        intro v195 w39 ho hb hg hat
        rw [← Ny194.out] at ho
        have n0_ := aM_ (Kd.R_after (ok := (fun _ => True)) (by exact kM_ HO193.out (fun _ hk => ⟨trivial, hk⟩)) hg hat)
        have n1_ := aM_ (hb)
        have n2_ := aM_ (ho)
        clear HO193
        clear HB
        clear HO190
        have HO193 := n0_
        have HB := n1_
        have HO196 := n2_
        clear n0_ n1_ n2_
        clear ho hb hg hat
        refine hK.out _ _ trivial (fun hHeld => ?_)
        clear hK K
        refine norm_ (a' := ?_) ?_ ?_; rotate_left; (show Act.put _ (some 39) _ = _; simp only [Act.put, sA_, sB_, sC_, i6_, i3_]; rfl)
        refine one_ (i := 10) (N := some 43) #[ty, ty, ty, ty, ty, ty, ty, ty, ty, ty, ty, fy] rfl rfl (one_of HT_.out (by kernel_rfl)) (by decide) (fun K hK => ?_)
        refine Kd.R_append_rows_step Kd.string (w0 := w) w.heap.size (by rfl) (.tmp 39) (.tmp 42) 49 9 (.string ⟨#[]⟩) 16 rfl Tryz.underlying49 info9 rfl (by decide) (by omega) v195 y194 (l0.drop (x5_1 : Int).toNat) _ _ _ (fun k_ => some k_ ≠ (.slice Ao40 y191.length co40 : Value).ownBlock) (fun _ => False) rfl rfl ?aO ?aR (fun _ _ h => h) (fun _ h => h.elim) ?aF ?aB ?aS ?aL ?_
        (case aR => (rw [← show (l0.drop (x5_1 : Int).toNat).length = (l0.length - x5_1.toNat) from List.length_drop]; repeat (first | exact (k4_ HR197.out HB.out) | (with_reducible refine Kd.C_alloc ?_ _) | (with_reducible refine Kd.C_drewN ?_ _) | (with_reducible refine Kd.C_drew ?_))))
        (case aB => exact HB.out)
        (case aF => exact (fun k_ hk => Kd.fresh' (Kd.R_lt HO193.out) k_ hk))
        (case aO => exact HO196.out)
        (case aS => exact (bZ_ HB.out))
        (case aL => have := LMc31.out; have hlx_ := (show (l0.drop (x5_1 : Int).toNat).length = (l0.length - x5_1.toNat) from List.length_drop); omega)
        intro v199 w41 ho hb hg hat
        rw [← Ny198.out] at ho
        have n0_ := aM_ (Kd.R_after (ok := (fun _ => True)) HO193.out hg hat)
        have n1_ := aM_ (hb)
        have n2_ := aM_ (ho)
        clear HO193
        clear HB
        clear HO196
        have HO193 := n0_
        have HB := n1_
        have HO200 := n2_
        clear n0_ n1_ n2_
        clear ho hb hg hat
        refine hK.out _ _ trivial (fun hHeld => ?_)
        clear hK K
        refine norm_ (a' := ?_) ?_ ?_; rotate_left; (show Act.put _ (some 43) _ = _; simp only [Act.put, sA_, sB_, sC_, i6_, i3_]; rfl)
        refine pure_ (i := 11) (N := some 4) (v := ?_) (a' := ?_) #[ty, ty, ty, ty, ty, ty, ty, ty, ty, ty, ty, ty] rfl rfl (aO_ HT_.out (by kernel_rfl)) (fun _ _ _ h => h) (Or.inl ⟨by rfl, ?_⟩) ?_ ?_; rotate_left; (intro w'; go_simp; with_reducible rfl); rotate_left; (simp only [Act.put, sA_, sB_, sC_, i6_, i3_]; rfl)
        refine done_ (done_of HT_.out (by kernel_rfl)) ?_
        try go_wp2
        go_ret
        exact ⟨_, by rfl, by exact kM_ HO200.out (fun _ hk => trivial), by exact HB.out⟩
       ·
        rw [if_neg c31] at H
        exact absurd H (by simp)
      ·
       rw [if_neg c28] at H
       exact absurd H (by simp)
     ·
      rw [if_neg c26] at H
      exact absurd H (by simp)
    ·
     rw [if_neg c25] at H
     exact absurd H (by simp)
def spec_l2PutB.l0 : Nat → List ByteArray → ByteArray → Int → Option (List ByteArray)
 | 0, _, _, _ => none
 | k + 1, x0, x1, x5 => if x5 < (x0.length : Int) then (if 0 ≤ x5 then ((spec_l2Before.f k (rdOf eB_ x0 x5) x1).bind fun t202 => (if t202 = true then (spec_l2PutB.l0 k x0 x1 (wrap64 (x5 + 1))) else (if (rdOf eB_ x0 x5).toList = x1.toList then (some x0) else (none)))) else (none)) else (none)
def spec_l2PutB.f (k : Nat) (l0 : List ByteArray) (a1 : ByteArray) : Option (List ByteArray) := spec_l2PutB.l0 k l0 a1 0
theorem spec_l2PutB.mono_l : ∀ k, (∀ y0 y1 y2, LeO (spec_l2PutB.l0 k y0 y1 y2) (spec_l2PutB.l0 (k + 1) y0 y1 y2))
 | 0 => fun _ _ _ r h => by simp [spec_l2PutB.l0] at h
 | k + 1 => by
  have ih0 := spec_l2PutB.mono_l k
  ·
   intro y0 y1 y2
   unfold spec_l2PutB.l0
   repeat' with_reducible first | exact ih0 _ _ _ | exact spec_l2Before.mono _ _ _ | exact l3_ _ | exact l0_ _ | refine l2_ ?_ ?_ | refine l1_ ?_ (fun _ => ?_)
theorem spec_l2PutB.mono : ∀ a0 a1 k, LeO (spec_l2PutB.f k a0 a1) (spec_l2PutB.f (k + 1) a0 a1) := by
 intro a0 a1 k
 have ih0 := spec_l2PutB.mono_l k
 unfold spec_l2PutB.f
 repeat' with_reducible first | exact ih0 _ _ _ | exact spec_l2Before.mono _ _ _ | exact l3_ _ | exact l0_ _ | refine l2_ ?_ ?_ | refine l1_ ?_ (fun _ => ?_)
theorem spec_l2PutB.calls (k : Nat) (P0_ : Nat → Prop) (u9000_ : Value) (l0 : List ByteArray) (a1 : ByteArray) (r : List ByteArray) (w0 w : World) (hB : Below w0.heap.size w0 w) (ho0 : Kd.R Kd.string 9 w w0.heap.size P0_ u9000_ l0) (h : spec_l2PutB.f k l0 a1 = some r) :
  Calls Tryz.prog 73 #[u9000_, .string a1] w fun e w' => ∃ v0_ : Value, e = .returned (v0_) ∧ Kd.R Kd.string 9 w' w0.heap.size (fun k_ => (P0_ k_ ∨ w.heap.size ≤ k_)) v0_ r ∧ Below w0.heap.size w0 w' ∧ Kept w w' (fun k_ => P0_ k_) := by
 have HO0 := aM_ (show Kd.R Kd.string 9 w w0.heap.size (fun k_ => (P0_ k_ ∨ w.heap.size ≤ k_)) u9000_ l0 from kM_ ho0 (fun k_ hk => (.inl hk)))
 have HK := aM_ (Kept.refl w (fun k_ => P0_ k_))
 have HW0 := aM_ hB.size
 have HB := aM_ hB
 clear hB
 have H : (spec_l2PutB.l0 k l0 a1 0) = some r := h
 clear h
 have H' := aM_ H
 clear H
 go_enter Tryz.func73, Tryz.ntmps73
 go_wp2
 go_loopg [5] k (fun kq v5 w' => ∃ (x5_1 : Int), v5 = .int .i64 x5_1 ∧ Aside0 (spec_l2PutB.l0 kq l0 a1 x5_1 = some r) ∧ Aside0 (kq ≤ k) ∧ Aside0 (Kd.R Kd.string 9 w' w0.heap.size (fun k_ => (P0_ k_ ∨ w.heap.size ≤ k_)) u9000_ l0) ∧ Aside0 (Kept w w' (fun k_ => P0_ k_)) ∧ Aside0 (Below w0.heap.size w0 w'))
 case atStart => exact ⟨(0), (by rfl), H', ⟨Nat.le_refl _⟩, ⟨HO0.out⟩, ⟨by repeat (first | (with_reducible first | exact HK.out | apply Kept.alloc | apply Kept.drewN | apply Kept.drew) | exact HK.out)⟩, ⟨HB.out⟩⟩
 case round =>
  clear H'
  try clear p2
  obtain ⟨x5_1, rfl, HA, HK1, HO_0, HK, HB⟩ := hrel
  cases gk with
  | zero => exact absurd HA.out (by simp [spec_l2PutB.l0])
  | succ k1 =>
   have H := HA.out
   clear HA
   simp only [spec_l2PutB.l0] at H
   by_cases c3 : x5_1 < (l0.length : Int)
   ·
    rw [if_pos c3] at H
    have c3b0 := decide_eq_true c3
    clear c3
    by_cases c4 : 0 ≤ x5_1
    ·
     rw [if_pos c4] at H
     have c4b0 := decide_eq_true c4
     clear c4
     replace H := oB_.mp H
     obtain ⟨t202, A50, H⟩ := H
     try dsimp only at H
     have A5 := aM_ A50
     clear A50
     by_cases c6 : t202 = true
     ·
      subst c6
      rw [if_pos rfl] at H
      have H' := aM_ H
      clear H
      obtain ⟨Ao7, co7, eo7⟩ := kS_ HO_0.out
      subst eo7
      have p201 : 0 ≤ (x5_1 : Int) := of_decide_eq_true ‹_›
      have q201 : x5_1 < (l0.length : Int) := of_decide_eq_true ‹_›
      obtain ⟨ad201, e201, hx201_0⟩ := Kd.at_string (kR_ HO_0.out).2.2 x5_1 p201 q201
      cases e201
      replace p201 := eq_true p201
      replace q201 := eq_true q201
      go_wp2_with (first | (go_at_call 90; (with_reducible refine (spec_l2Before.calls k1 (rdOf eB_ l0 x5_1) a1 true _ A5.out).mono ?_); rintro e w' ⟨rfl, ⟨nd, rfl⟩⟩))
      go_roundg k1
      case measure => have := HK1.out; omega
      case rel => exact ⟨(wrap64 (x5_1 + 1)), (by rfl), H', ⟨by have := HK1.out; omega⟩, ⟨by (with_reducible repeat (first | apply k1_ | apply k2_ | apply k3_)); exact HO_0.out⟩, ⟨by repeat (first | (with_reducible first | exact HK.out | apply Kept.alloc | apply Kept.drewN | apply Kept.drew) | exact HK.out)⟩, ⟨by repeat (first | (with_reducible first | exact HB.out | apply bA_ | apply bN_ | apply bD_) | exact HB.out)⟩⟩
     ·
      replace c6 := Bool.eq_false_iff.mpr c6
      subst c6
      replace H : (if (rdOf eB_ l0 x5_1).toList = a1.toList then (some l0) else (none)) = some r := by rw [if_neg (show ¬ (false = true) by decide)] at H; exact H
      by_cases c8 : (rdOf eB_ l0 x5_1).toList = a1.toList
      ·
       rw [if_pos c8] at H
       have c8b0 : ((rdOf eB_ l0 x5_1).toList == a1.toList) = true := beq_iff_eq.mpr c8
       have c8b1 : ((rdOf eB_ l0 x5_1).toList != a1.toList) = false := bne_eq_false_iff_eq.mpr c8
       clear c8
       obtain rfl := Option.some.inj H
       obtain ⟨Ao9, co9, eo9⟩ := kS_ HO_0.out
       subst eo9
       have p201 : 0 ≤ (x5_1 : Int) := of_decide_eq_true ‹_›
       have q201 : x5_1 < (l0.length : Int) := of_decide_eq_true ‹_›
       obtain ⟨ad201, e201, hx201_0⟩ := Kd.at_string (kR_ HO_0.out).2.2 x5_1 p201 q201
       cases e201
       replace p201 := eq_true p201
       replace q201 := eq_true q201
       go_wp2_with (first | (go_at_call 90; (with_reducible refine (spec_l2Before.calls k1 (rdOf eB_ l0 x5_1) a1 false _ A5.out).mono ?_); rintro e w' ⟨rfl, ⟨nd, rfl⟩⟩; have p203 : 0 ≤ (x5_1 : Int) := of_decide_eq_true ‹_›; have q203 : x5_1 < (l0.length : Int) := of_decide_eq_true ‹_›; obtain ⟨ad203, e203, hx203_0⟩ := Kd.at_string (kR_ HO_0.out).2.2 x5_1 p203 q203; obtain rfl : ad201 = ad203 := (by injection e203); replace p203 := eq_true p203; replace q203 := eq_true q203))
       go_ret
       exact ⟨_, by rfl, by (with_reducible repeat (first | apply k1_ | apply k2_ | apply k3_)); exact HO_0.out, by repeat (first | (with_reducible first | exact HB.out | apply bA_ | apply bN_ | apply bD_) | exact HB.out), by repeat (first | (with_reducible first | exact HK.out | apply Kept.alloc | apply Kept.drewN | apply Kept.drew) | exact HK.out)⟩
      ·
       rw [if_neg c8] at H
       exact absurd H (by simp)
    ·
     rw [if_neg c4] at H
     exact absurd H (by simp)
   ·
    rw [if_neg c3] at H
    have c3b0 := decide_eq_false c3
    clear c3
    exact absurd H (by simp)
open Go.Proofs.YtfhffcefpnkllaaGreatDoor.M
theorem spec_l2Put.before_loop (a b : Txt) (ha : a.length ≤ 4611686018427387900) : ∀ (d n : Nat), n + d = a.length → n ≤ b.length → Ev (fun k => spec_l2Before.l0 k (B a) (B b) (n : Int)) (decide (a.drop n < b.drop n)) := by
 have last : ∀ n : Nat, (n = a.length ∨ n = b.length) → n ≤ a.length → n ≤ b.length → Ev (fun k => spec_l2Before.j1 k (B a) (B b) (n : Int) false) (decide (a.drop n < b.drop n)) := by
  intro n h ha hb
  refine Ev.step (fun k => spec_l2Before.j1.eq_2 ..) (Ev.ifF (by simp) ?_)
  have : decide (((B a).size : Int) < ((B b).size : Int)) = decide (a.drop n < b.drop n) := by
   simp only [size_B]
   congr 1
   rcases h with rfl | rfl
   ·
    rw [List.drop_length]
    cases hd : b.drop a.length with
    | nil =>
     have : b.length ≤ a.length := by simpa using hd
     simp; omega
    | cons c t =>
     have : a.length < b.length := by
      have := congrArg List.length hd
      simp at this; omega
     simp; omega
   ·
    rw [List.drop_length]
    simp; omega
  rw [this]; exact Ev.now _
 intro d
 induction d with
 | zero =>
  intro n hn hb
  refine Ev.step (fun k => spec_l2Before.l0.eq_2 ..) (Ev.ifF (by simp; omega) ?_)
  exact last n (.inl (by omega)) (by omega) hb
 | succ d ih =>
  intro n hn hb
  have h1 : n < a.length := by omega
  refine Ev.step (fun k => spec_l2Before.l0.eq_2 ..) (Ev.ifT (by simp; omega) ?_)
  by_cases h2 : n < b.length
  ·
   rw [show decide ((n : Int) < ((B b).size : Int)) = true from by simp; omega]
   refine Ev.step (fun k => spec_l2Before.j1.eq_2 ..) (Ev.ifT rfl (Ev.ifT (by omega) (Ev.ifT (by simp; omega) (Ev.ifT (by simp; omega) ?_))))
   simp only [bt_B a n h1, bt_B b n h2]
   rw [drop_cons_getD 0 h1, drop_cons_getD 0 h2]
   by_cases e : ((a.getD n 0).toNat : Int) = ((b.getD n 0).toNat : Int)
   ·
    have e2 : a.getD n 0 = b.getD n 0 := UInt8.toNat_inj.1 (by omega)
    refine Ev.ifT e ?_
    have := ih (n + 1) (by omega) (by omega)
    simp only [e2, List.cons_lt_cons_iff, UInt8.lt_irrefl, true_and, false_or]
    simpa only [wrap64_succ n (by omega)] using this
   ·
    refine Ev.ifF e ?_
    have e2 : a.getD n 0 ≠ b.getD n 0 := fun h => e (by rw [h])
    have : decide (((a.getD n 0).toNat : Int) < ((b.getD n 0).toNat : Int)) = decide (a.getD n 0 :: a.drop (n + 1) < b.getD n 0 :: b.drop (n + 1)) := by
     congr 1
     simp only [List.cons_lt_cons_iff, e2, false_and, or_false, UInt8.lt_iff_toNat_lt, eq_iff_iff]
     omega
    rw [this]; exact Ev.now _
  ·
   rw [show decide ((n : Int) < ((B b).size : Int)) = false from by simp; omega]
   exact last n (.inr (by omega)) (by omega) hb
theorem spec_l2Put.before_ev (a b : Txt) (ha : a.length ≤ 4611686018427387900) : Ev (fun k => spec_l2Before.f k (B a) (B b)) (decide (a < b)) := by
 simpa [spec_l2Before.f] using spec_l2Put.before_loop a b ha a.length 0 (by omega) (by omega)
theorem spec_l2Put.own_eq (l : List ByteArray) (h : l.length < 8796093022208) : spec_l2Own.f l = some l := by
 unfold spec_l2Own.f
 simp only [Option.bind_some, List.length_nil, Nat.zero_add, if_pos h, List.nil_append]
def spec_l2Put.okL (l : List Txt) : Prop := l.length ≤ 4294967296 ∧ ∀ x ∈ l, x.length ≤ 4611686018427387900
theorem spec_l2Put.getD_ok {l : List Txt} (h : spec_l2Put.okL l) (n : Nat) (hn : n < l.length) : (l.getD n []).length ≤ 4611686018427387900 := by
 rw [getD_lt [] hn]; exact h.2 _ (List.getElem_mem hn)
theorem spec_l2Put.rd_map (l : List Txt) (n : Nat) (h : n < l.length) : rdOf eB_ (l.map B) (n : Int) = B (l.getD n []) := by
 simp [rdOf, List.getD_eq_getElem?_getD, h]
theorem spec_l2Put.A_loop (l : List Txt) (w : Txt) (ok : spec_l2Put.okL l) : ∀ (d n : Nat), n + d = l.length → foundL (l.drop n) w = false → Ev (fun k => spec_l2PutA.l0 k (l.map B) (B w) (n : Int)) ((l.take n ++ putL (l.drop n) w).map B) := by
 have hl := ok.1
 have fin : ∀ n, n ≤ l.length → ∀ (g : Nat → Option (List ByteArray)), (∀ k, g k = ((spec_l2Own.f ((l.map B).take (n : Int).toNat)).bind fun t1 => ((some (([B w] : List ByteArray) : List ByteArray)).bind fun y1 => (if t1.length + y1.length < 8796093022208 then ((some (t1 ++ y1 : List ByteArray)).bind fun y2 => (if y2.length + ((l.map B).drop (n : Int).toNat).length < 8796093022208 then (some (y2 ++ ((l.map B).drop (n : Int).toNat))) else (none))) else (none))))) → Ev g ((l.take n ++ w :: l.drop n).map B) := by
  intro n hn g hg
  refine Ev.congr hg ?_
  rw [spec_l2Put.own_eq _ (by simp; omega)]
  simp only [Option.bind_some]
  refine Ev.ifT (by simp; omega) (Ev.ifT (by simp; omega) ?_)
  simpa [List.map_take, List.map_drop] using Ev.now ((l.take n ++ w :: l.drop n).map B)
 intro d
 induction d with
 | zero =>
  intro n hn hf
  refine Ev.step (fun k => spec_l2PutA.l0.eq_2 ..) (Ev.ifF (by simp; omega) (Ev.ifT (by omega) (Ev.ifT (by simp; omega) ?_)))
  rw [show putL (l.drop n) w = w :: l.drop n from by rw [List.drop_of_length_le (by omega)]; rfl]
  exact fin n (by omega) _ (fun _ => rfl)
 | succ d ih =>
  intro n hn hf
  have h1 : n < l.length := by omega
  refine Ev.step (fun k => spec_l2PutA.l0.eq_2 ..) (Ev.ifT (by simp; omega) (Ev.ifT (by omega) ?_))
  simp only [spec_l2Put.rd_map l n h1]
  refine Ev.bind (spec_l2Put.before_ev (l.getD n []) w (spec_l2Put.getD_ok ok n h1)) ?_
  rw [drop_cons_getD [] h1] at hf ⊢
  by_cases hlt : l.getD n [] < w
  ·
   simp only [foundL, if_pos hlt] at hf
   refine Ev.ifT (by simpa using hlt) ?_
   have := ih (n + 1) (by omega) hf
   rw [take_succ_getD [] h1] at this
   simpa only [wrap64_succ n (by omega), putL, if_pos hlt, List.append_assoc, List.singleton_append] using this
  ·
   simp only [foundL, if_neg hlt, decide_eq_false_iff_not] at hf
   refine Ev.ifF (by simpa using hlt) (Ev.ifF (by simpa using hf) (Ev.ifT (by simp; omega) ?_))
   rw [show putL (l.getD n [] :: l.drop (n + 1)) w = w :: l.drop n from by rw [drop_cons_getD [] h1]; simp only [putL, if_neg hlt, if_neg hf]]
   exact fin n (by omega) _ (fun _ => rfl)
theorem spec_l2Put.B_loop (l : List Txt) (w : Txt) (ok : spec_l2Put.okL l) : ∀ (d n : Nat), n + d = l.length → foundL (l.drop n) w = true → Ev (fun k => spec_l2PutB.l0 k (l.map B) (B w) (n : Int)) (l.map B) := by
 have hl := ok.1
 intro d
 induction d with
 | zero => intro n hn hf; rw [List.drop_of_length_le (by omega)] at hf; simp [foundL] at hf
 | succ d ih =>
  intro n hn hf
  have h1 : n < l.length := by omega
  refine Ev.step (fun k => spec_l2PutB.l0.eq_2 ..) (Ev.ifT (by simp; omega) (Ev.ifT (by omega) ?_))
  simp only [spec_l2Put.rd_map l n h1]
  refine Ev.bind (spec_l2Put.before_ev (l.getD n []) w (spec_l2Put.getD_ok ok n h1)) ?_
  rw [drop_cons_getD [] h1] at hf
  by_cases hlt : l.getD n [] < w
  ·
   simp only [foundL, if_pos hlt] at hf
   refine Ev.ifT (by simpa using hlt) ?_
   simpa only [wrap64_succ n (by omega)] using ih (n + 1) (by omega) hf
  ·
   simp only [foundL, if_neg hlt, decide_eq_true_eq] at hf
   exact Ev.ifF (by simpa using hlt) (Ev.ifT (by simpa using hf) (Ev.now _))
def spec_l2Put.f (l0 : List ByteArray) (a1 : ByteArray) : Option (List ByteArray) := if l0.length ≤ 4294967296 ∧ (l0.all fun x => decide (x.size ≤ 4611686018427387900)) = true then some ((putL (l0.map fun x => x.data.toList) a1.data.toList).map B) else none
theorem spec_l2Put.calls (P0_ : Nat → Prop) (u9000_ : Value) (l0 : List ByteArray) (a1 : ByteArray) (r : List ByteArray) (w0 w : World) (hB : Below w0.heap.size w0 w) (ho0 : Kd.R Kd.string 9 w w0.heap.size P0_ u9000_ l0) (h : spec_l2Put.f l0 a1 = some r) :
  Calls Tryz.prog 73 #[u9000_, .string a1] w fun e w' => ∃ v0_ : Value, e = .returned (v0_) ∧ Kd.R Kd.string 9 w' w0.heap.size (fun k_ => (P0_ k_ ∨ w.heap.size ≤ k_)) v0_ r ∧ Below w0.heap.size w0 w' ∧ Kept w w' (fun k_ => P0_ k_) := by
 unfold spec_l2Put.f at h
 by_cases hc : l0.length ≤ 4294967296 ∧ (l0.all fun x => decide (x.size ≤ 4611686018427387900)) = true
 rotate_left
 ·
  rw [if_neg hc] at h; cases h
 rw [if_pos hc] at h
 obtain ⟨l, hl⟩ : ∃ l, l = l0.map fun x => x.data.toList := ⟨_, rfl⟩
 have e0 : l0 = l.map B := by
  rw [hl, List.map_map]
  conv => lhs; rw [← List.map_id l0]
  exact List.map_congr_left fun x _ => (B_data x).symm
 have e1 : a1 = B a1.data.toList := (B_data a1).symm
 have ok : spec_l2Put.okL l := by
  refine ⟨by rw [hl]; simpa using hc.1, fun x hx => ?_⟩
  rw [hl] at hx
  obtain ⟨y, hy, rfl⟩ := List.mem_map.1 hx
  have := List.all_eq_true.1 hc.2 y hy
  simpa using this
 rw [← hl] at h
 have hr := Option.some.inj h
 cases hf : foundL l a1.data.toList with
 | true =>
  obtain ⟨k, hk⟩ := Ev.rounds (spec_l2Put.B_loop l a1.data.toList ok l.length 0 (by omega) (by simpa using hf))
  refine spec_l2PutB.calls k P0_ u9000_ l0 a1 r w0 w hB ho0 ?_
  rw [← hr, putL_found l _ hf, e0, e1]
  unfold spec_l2PutB.f
  simpa using hk
 | false =>
  obtain ⟨k, hk⟩ := Ev.rounds (spec_l2Put.A_loop l a1.data.toList ok l.length 0 (by omega) (by simpa using hf))
  obtain ⟨A, c, rfl, hlc, hC⟩ := Kd.R_reads ho0
  refine (spec_l2PutA.calls k A c l0 a1 r w hC hlc ?_).mono ?_
  ·
   rw [← hr, e0, e1]
   unfold spec_l2PutA.f
   simpa using hk
  ·
   rintro e w' ⟨v, rfl, hR, hb⟩
   exact ⟨v, rfl, k5_ (kM_ (Kd.R_bound hR) (fun k hk => .inr hk.2.1)) hB.size, hB.trans (hb.mono hB.size), Kept.of_below hb _⟩
def spec_l2Set.l0 : Nat → List ByteArray → List ByteArray → Int → Option (List ByteArray × Bool)
 | 0, _, _, _ => none
 | k + 1, x0, x4, x5 => if x5 < (x0.length : Int) then (if 0 ≤ x5 then ((spec_l2Word.f k (rdOf eB_ x0 x5)).bind fun t208 => (if t208 = true then ((spec_l2Put.f x4 (rdOf eB_ x0 x5)).bind fun t210 => (spec_l2Set.l0 k x0 t210 (wrap64 (x5 + 1)))) else (some ((([] : List ByteArray)), false)))) else (none)) else (some (x4, decide ((x4.length : Int) ≤ 40)))
def spec_l2Set.f (k : Nat) (l0 : List ByteArray) : Option (List ByteArray × Bool) := spec_l2Set.l0 k l0 (([] : List ByteArray)) 0
theorem spec_l2Set.mono_l : ∀ k, (∀ y0 y1 y2, LeO (spec_l2Set.l0 k y0 y1 y2) (spec_l2Set.l0 (k + 1) y0 y1 y2))
 | 0 => fun _ _ _ r h => by simp [spec_l2Set.l0] at h
 | k + 1 => by
  have ih0 := spec_l2Set.mono_l k
  ·
   intro y0 y1 y2
   unfold spec_l2Set.l0
   repeat' with_reducible first | exact ih0 _ _ _ | exact spec_l2Word.mono _ _ | exact l3_ _ | exact l0_ _ | refine l2_ ?_ ?_ | refine l1_ ?_ (fun _ => ?_)
theorem spec_l2Set.mono : ∀ a0 k, LeO (spec_l2Set.f k a0) (spec_l2Set.f (k + 1) a0) := by
 intro a0 k
 have ih0 := spec_l2Set.mono_l k
 unfold spec_l2Set.f
 repeat' with_reducible first | exact ih0 _ _ _ | exact spec_l2Word.mono _ _ | exact l3_ _ | exact l0_ _ | refine l2_ ?_ ?_ | refine l1_ ?_ (fun _ => ?_)
theorem spec_l2Set.calls (k : Nat) (A0 : Option Addr) (c0 : Nat) (l0 : List ByteArray) (r1 : List ByteArray) (r2 : Bool) (w : World) (hr0 : Kd.C Kd.string w A0 l0.length l0) (hc0 : l0.length ≤ c0) (h : spec_l2Set.f k l0 = some (r1, r2)) :
  Calls Tryz.prog 55 #[.slice A0 l0.length c0] w fun e w' => ∃ v0_ : Value, e = .returned (.tuple #[v0_, .bool r2]) ∧ Kd.R Kd.string 9 w' w.heap.size (fun _ => True) v0_ r1 ∧ Below w.heap.size w w' := by
 have HR0 := aM_ hr0
 have HC0 := aM_ hc0
 clear hr0 hc0
 have HB := aM_ (Below.refl w.heap.size w)
 have H : (spec_l2Set.l0 k l0 (([] : List ByteArray)) 0) = some (r1, r2) := h
 clear h
 obtain ⟨y204, hy204⟩ : ∃ y_ : List ByteArray, y_ = (([] : List ByteArray)) := ⟨_, rfl⟩
 replace H : (spec_l2Set.l0 k l0 y204 0) = some (r1, r2) := by first | (rw [hy204]; with_reducible exact H) | (have H2_ := (Option.bind_some _ _).symm.trans H; rw [hy204]; with_reducible exact H2_) | (have H2_ := (Option.bind_some _ _).symm.trans H; with_reducible exact H2_) | with_reducible exact H | (rw [hy204]; exact H) | exact H
 have Ny204 := aM_ hy204
 clear hy204
 have H' := aM_ H
 clear H
 go_enter Tryz.func55, Tryz.ntmps55
 go_wp2_with (first | ((with_reducible refine gD_ (N := 6) rfl ?_); refine Kd.R_lit Kd.string _ 9 ?hg (N := 6) ?hd (xs := ([] : List ByteArray)) (inner := []) (ok := fun _ => True) (okp := fun _ => True) ?hr ?hp (fun _ hk => hk) trivial (Below.refl _ _) (Nat.le_refl _) (by simp) ?_; (case hd => rfl); (case hg => rfl); (case hr => (go_simp; done)); (case hp => exact (Reps.none _ _)); intro v205 w2 ho3 hb hg_ hnew_; clear hg_ hnew_; (rw [← Ny204.out] at ho3); have HO206 := aM_ (k5_ ho3 (bZ_ HB.out)); replace HB := aM_ (bT_ HB.out hb); clear hb ho3))
 go_loopg [4, 5] k (fun kq v4 v5 w' => ∃ (x4_1 : List ByteArray) (x5_1 : Int), v5 = .int .i64 x5_1 ∧ Aside0 (spec_l2Set.l0 kq l0 x4_1 x5_1 = some (r1, r2)) ∧ Aside0 (kq ≤ k) ∧ Aside0 (Kd.R Kd.string 9 w' w.heap.size (fun _ => True) v4 x4_1) ∧ Aside0 (Below w.heap.size w w'))
 case atStart => exact ⟨(y204), (0), (by rfl), H', ⟨Nat.le_refl _⟩, ⟨HO206.out⟩, ⟨HB.out⟩⟩
 case round =>
  clear H'
  try clear p2
  obtain ⟨x4_1, x5_1, rfl, HA, HK1, HO_4, HB⟩ := hrel
  cases gk with
  | zero => exact absurd HA.out (by simp [spec_l2Set.l0])
  | succ k1 =>
   have H := HA.out
   clear HA
   simp only [spec_l2Set.l0] at H
   by_cases c4 : x5_1 < (l0.length : Int)
   ·
    rw [if_pos c4] at H
    have c4b0 := decide_eq_true c4
    clear c4
    by_cases c5 : 0 ≤ x5_1
    ·
     rw [if_pos c5] at H
     have c5b0 := decide_eq_true c5
     clear c5
     replace H := oB_.mp H
     obtain ⟨t208, A60, H⟩ := H
     try dsimp only at H
     have A6 := aM_ A60
     clear A60
     by_cases c7 : t208 = true
     ·
      subst c7
      rw [if_pos rfl] at H
      replace H := oB_.mp H
      obtain ⟨t210, A80, H⟩ := H
      try dsimp only at H
      have A8 := aM_ A80
      clear A80
      have H' := aM_ H
      clear H
      have p207 : 0 ≤ (x5_1 : Int) := of_decide_eq_true ‹_›
      have q207 : x5_1 < (l0.length : Int) := of_decide_eq_true ‹_›
      obtain ⟨ad207, e207, hx207_0⟩ := Kd.at_string HR0.out x5_1 p207 q207
      cases e207
      replace hx207_0 := (HB.out.cell (wB_ w _ hx207_0)).trans hx207_0
      replace p207 := eq_true p207
      replace q207 := eq_true q207
      go_wp2_with (first | ((with_reducible refine gC_ (f := 59) rfl ?_); refine goesL_ (some 17) rfl rfl Tryz.func59 (by kernel_rfl) rfl #[.string (rdOf eB_ l0 x5_1)] rfl (by (try simp only [sD_, sE_, sF_]); rfl) ?_; (with_reducible refine (spec_l2Word.calls k1 (rdOf eB_ l0 x5_1) true _ A6.out).mono ?_); rintro e w' ⟨rfl, ⟨nd, rfl⟩⟩; refine ⟨_, rfl, ?_⟩; have p209 : 0 ≤ (x5_1 : Int) := of_decide_eq_true ‹_›; have q209 : x5_1 < (l0.length : Int) := of_decide_eq_true ‹_›; obtain ⟨ad209, e209, hx209_0⟩ := Kd.at_string HR0.out x5_1 p209 q209; obtain rfl : ad207 = ad209 := (by injection e209); replace hx209_0 := (HB.out.cell (wB_ w _ hx209_0)).trans hx209_0; replace p209 := eq_true p209; replace q209 := eq_true q209; obtain ⟨Ao9, co9, eo9⟩ := kS_ HO_4.out; subst eo9) | ((with_reducible refine gC_ (f := 73) rfl ?_); refine goesL_ (some 25) rfl rfl Tryz.func73 (by kernel_rfl) rfl #[.slice Ao9 x4_1.length co9, .string (rdOf eB_ l0 x5_1)] rfl (by (try simp only [sD_, sE_, sF_]); rfl) ?_; (with_reducible refine (spec_l2Put.calls (fun k_ => some k_ = (.slice Ao9 x4_1.length co9 : Value).ownBlock) (.slice Ao9 x4_1.length co9) x4_1 (rdOf eB_ l0 x5_1) t210 w _ ?side1 ?side2 A8.out).mono ?_); (case side1 => repeat (first | (with_reducible first | exact HB.out | apply bA_ | apply bN_ | apply bD_) | exact HB.out)); (case side2 => exact Kd.R_tight rfl HO_4.out); rintro e w10 ⟨v211, rfl, ho0, hb, hkp⟩; refine ⟨_, rfl, ?_⟩; have n0_ := aM_ (kM_ (ok' := fun k_ => True) ho0 (fun k_ hk_ => trivial)); have n1_ := aM_ (hb); clear HB; clear HO_4; have HO212 := n0_; have HB := n1_; clear n0_ n1_; (try clear hb); (try clear hkp); (try clear ho0)))
      go_roundg k1
      case measure => have := HK1.out; omega
      case rel => exact ⟨(t210), (wrap64 (x5_1 + 1)), (by rfl), H', ⟨by have := HK1.out; omega⟩, ⟨HO212.out⟩, ⟨HB.out⟩⟩
     ·
      replace c7 := Bool.eq_false_iff.mpr c7
      subst c7
      replace H : (some ((([] : List ByteArray)), false)) = some (r1, r2) := by rw [if_neg (show ¬ (false = true) by decide)] at H; exact H
      obtain ⟨y213, hy213⟩ : ∃ y_ : List ByteArray, y_ = (([] : List ByteArray)) := ⟨_, rfl⟩
      replace H : (some (y213, false)) = some (r1, r2) := by first | (rw [hy213]; with_reducible exact H) | (have H2_ := (Option.bind_some _ _).symm.trans H; rw [hy213]; with_reducible exact H2_) | (have H2_ := (Option.bind_some _ _).symm.trans H; with_reducible exact H2_) | with_reducible exact H | (rw [hy213]; exact H) | exact H
      have Ny213 := aM_ hy213
      clear hy213
      simp only [Option.some.injEq, Prod.mk.injEq] at H
      obtain ⟨rfl, rfl⟩ := H
      have p207 : 0 ≤ (x5_1 : Int) := of_decide_eq_true ‹_›
      have q207 : x5_1 < (l0.length : Int) := of_decide_eq_true ‹_›
      obtain ⟨ad207, e207, hx207_0⟩ := Kd.at_string HR0.out x5_1 p207 q207
      cases e207
      replace hx207_0 := (HB.out.cell (wB_ w _ hx207_0)).trans hx207_0
      replace p207 := eq_true p207
      replace q207 := eq_true q207
      go_wp2_with (first | ((with_reducible refine gC_ (f := 59) rfl ?_); refine goesL_ (some 17) rfl rfl Tryz.func59 (by kernel_rfl) rfl #[.string (rdOf eB_ l0 x5_1)] rfl (by (try simp only [sD_, sE_, sF_]); rfl) ?_; (with_reducible refine (spec_l2Word.calls k1 (rdOf eB_ l0 x5_1) false _ A6.out).mono ?_); rintro e w' ⟨rfl, ⟨nd, rfl⟩⟩; refine ⟨_, rfl, ?_⟩) | ((with_reducible refine gD_ (N := 19) rfl ?_); refine Kd.R_lit Kd.string _ 9 ?hg (N := 19) ?hd (xs := ([] : List ByteArray)) (inner := []) (ok := fun _ => True) (okp := fun _ => True) ?hr ?hp (fun _ hk => hk) trivial (Below.refl _ _) (Nat.le_refl _) (by simp) ?_; (case hd => rfl); (case hg => rfl); (case hr => (go_simp; done)); (case hp => exact (Reps.none _ _)); intro v214 w11 ho12 hb hg_ hnew_; clear hg_ hnew_; (rw [← Ny213.out] at ho12); have HO215 := aM_ (k5_ (Kd.R_new' ho12 (Kd.R_lt (by (with_reducible repeat (first | apply k1_ | apply k2_ | apply k3_)); exact HO_4.out))) (bZ_ (by repeat (first | (with_reducible first | exact HB.out | apply bA_ | apply bN_ | apply bD_) | exact HB.out)))); replace HO_4 := aM_ (Kd.R_elder' (by (with_reducible repeat (first | apply k1_ | apply k2_ | apply k3_)); exact HO_4.out) (Kd.R_base ho12) hb); replace HB := aM_ (bT_ (by repeat (first | (with_reducible first | exact HB.out | apply bA_ | apply bN_ | apply bD_) | exact HB.out)) hb); clear hb ho12))
      go_ret2
      exact ⟨_, by rfl, by exact kM_ HO215.out (fun _ hk => trivial), by exact HB.out⟩
    ·
     rw [if_neg c5] at H
     exact absurd H (by simp)
   ·
    rw [if_neg c4] at H
    have c4b0 := decide_eq_false c4
    clear c4
    simp only [Option.some.injEq, Prod.mk.injEq] at H
    obtain ⟨rfl, rfl⟩ := H
    obtain ⟨Ao13, co13, eo13⟩ := kS_ HO_4.out
    subst eo13
    go_wp2
    go_ret2
    exact ⟨_, by rfl, by exact HO_4.out, by exact HB.out⟩
mutual
def spec_l2Of.l0 : Nat → List ByteArray → List ByteArray → Int → Option ((List (S76)))
 | 0, _, _, _ => none
 | k + 1, x0, x3, x4 => if x4 < (x0.length : Int) then (spec_l2Of.l1 k x0 x3 x4 1) else (spec_l2Of.l2 k x0 x3 0 (([] : List (S76))))
def spec_l2Of.l1 : Nat → List ByteArray → List ByteArray → Int → Int → Option ((List (S76)))
 | 0, _, _, _, _ => none
 | k + 1, x0, x3, x4, x5 => if 0 ≤ x4 then (if x4 < (x0.length : Int) then (if x5 ≤ ((rdOf eB_ x0 x4).size : Int) then (if 0 ≤ x5 then ((spec_l2Put.f x3 ((rdOf eB_ x0 x4).extract 0 (x5 : Int).toNat)).bind fun t224 => (spec_l2Of.l1 k x0 t224 x4 (wrap64 (x5 + 1)))) else (none)) else (spec_l2Of.l0 k x0 x3 (wrap64 (x4 + 1)))) else (none)) else (none)
def spec_l2Of.l2 : Nat → List ByteArray → List ByteArray → Int → List (S76) → Option ((List (S76)))
 | 0, _, _, _, _ => none
 | k + 1, x0, x3, x7, x231000 => if x7 < (x3.length : Int) then (if 0 ≤ x7 then ((spec_l2Has.f k x0 (rdOf eB_ x3 x7)).bind fun t232 => (if x7 > 0 then (if 0 ≤ (wrap64 (((rdOf eB_ x3 x7).size : Int) - 1)) then (if (wrap64 (((rdOf eB_ x3 x7).size : Int) - 1)) < ((rdOf eB_ x3 x7).size : Int) then (if (wrap64 (((rdOf eB_ x3 x7).size : Int) - 1)) ≤ ((rdOf eB_ x3 x7).size : Int) then ((spec_l2Place.f k x3 ((rdOf eB_ x3 x7).extract 0 ((wrap64 (((rdOf eB_ x3 x7).size : Int) - 1)) : Int).toNat)).bind fun t234 => (if x231000.length < 5864062014805 then (spec_l2Of.l2 k x0 x3 (wrap64 (x7 + 1)) (x231000 ++ [(⟨((bt (rdOf eB_ x3 x7) (wrap64 (((rdOf eB_ x3 x7).size : Int) - 1))) - 97) % 256, t234, t232⟩ : S76)])) else (none))) else (none)) else (none)) else (none)) else (if x231000.length < 5864062014805 then (spec_l2Of.l2 k x0 x3 (wrap64 (x7 + 1)) (x231000 ++ [(⟨(-1), (-1), t232⟩ : S76)])) else (none)))) else (none)) else (some x231000)
end
def spec_l2Of.f (k : Nat) (l0 : List ByteArray) : Option ((List (S76))) := spec_l2Of.l0 k l0 (([(⟨#[]⟩ : ByteArray)] : List ByteArray)) 0
theorem spec_l2Of.mono_l : ∀ k, (∀ y0 y1 y2, LeO (spec_l2Of.l0 k y0 y1 y2) (spec_l2Of.l0 (k + 1) y0 y1 y2)) ∧ (∀ y0 y1 y2 y3, LeO (spec_l2Of.l1 k y0 y1 y2 y3) (spec_l2Of.l1 (k + 1) y0 y1 y2 y3)) ∧ (∀ y0 y1 y2 y3, LeO (spec_l2Of.l2 k y0 y1 y2 y3) (spec_l2Of.l2 (k + 1) y0 y1 y2 y3))
 | 0 => ⟨fun _ _ _ r h => by simp [spec_l2Of.l0] at h, fun _ _ _ _ r h => by simp [spec_l2Of.l1] at h, fun _ _ _ _ r h => by simp [spec_l2Of.l2] at h⟩
 | k + 1 => by
  obtain ⟨ih0, ih1, ih2⟩ := spec_l2Of.mono_l k
  refine ⟨?_, ?_, ?_⟩
  ·
   intro y0 y1 y2
   unfold spec_l2Of.l0
   repeat' with_reducible first | exact ih0 _ _ _ | exact ih1 _ _ _ _ | exact ih2 _ _ _ _ | exact spec_l2Has.mono _ _ _ | exact spec_l2Place.mono _ _ _ | exact l3_ _ | exact l0_ _ | refine l2_ ?_ ?_ | refine l1_ ?_ (fun _ => ?_)
  ·
   intro y0 y1 y2 y3
   unfold spec_l2Of.l1
   repeat' with_reducible first | exact ih0 _ _ _ | exact ih1 _ _ _ _ | exact ih2 _ _ _ _ | exact spec_l2Has.mono _ _ _ | exact spec_l2Place.mono _ _ _ | exact l3_ _ | exact l0_ _ | refine l2_ ?_ ?_ | refine l1_ ?_ (fun _ => ?_)
  ·
   intro y0 y1 y2 y3
   unfold spec_l2Of.l2
   repeat' with_reducible first | exact ih0 _ _ _ | exact ih1 _ _ _ _ | exact ih2 _ _ _ _ | exact spec_l2Has.mono _ _ _ | exact spec_l2Place.mono _ _ _ | exact l3_ _ | exact l0_ _ | refine l2_ ?_ ?_ | refine l1_ ?_ (fun _ => ?_)
theorem spec_l2Of.mono : ∀ a0 k, LeO (spec_l2Of.f k a0) (spec_l2Of.f (k + 1) a0) := by
 intro a0 k
 obtain ⟨ih0, ih1, ih2⟩ := spec_l2Of.mono_l k
 unfold spec_l2Of.f
 repeat' with_reducible first | exact ih0 _ _ _ | exact ih1 _ _ _ _ | exact ih2 _ _ _ _ | exact spec_l2Has.mono _ _ _ | exact spec_l2Place.mono _ _ _ | exact l3_ _ | exact l0_ _ | refine l2_ ?_ ?_ | refine l1_ ?_ (fun _ => ?_)
theorem spec_l2Of.calls (k : Nat) (A0 : Option Addr) (c0 : Nat) (l0 : List ByteArray) (r : List (S76)) (w : World) (hr0 : Kd.C Kd.string w A0 l0.length l0) (hc0 : l0.length ≤ c0) (h : spec_l2Of.f k l0 = some r) :
  Calls Tryz.prog 56 #[.slice A0 l0.length c0] w fun e w' => ∃ v0_ : Value, e = .returned (.agg #[v0_]) ∧ Kd.R k76 76 w' w.heap.size (fun _ => True) v0_ r ∧ Below w.heap.size w w' := by
 have hu36 := Tryz.underlying36
 have hu76 := Tryz.underlying76
 have HR0 := aM_ hr0
 have HC0 := aM_ hc0
 clear hr0 hc0
 have HB := aM_ (Below.refl w.heap.size w)
 have H : (spec_l2Of.l0 k l0 (([(⟨#[]⟩ : ByteArray)] : List ByteArray)) 0) = some r := h
 clear h
 obtain ⟨y219, hy219⟩ : ∃ y_ : List ByteArray, y_ = (([(⟨#[]⟩ : ByteArray)] : List ByteArray)) := ⟨_, rfl⟩
 replace H : (spec_l2Of.l0 k l0 y219 0) = some r := by first | (rw [hy219]; with_reducible exact H) | (have H2_ := (Option.bind_some _ _).symm.trans H; rw [hy219]; with_reducible exact H2_) | (have H2_ := (Option.bind_some _ _).symm.trans H; with_reducible exact H2_) | with_reducible exact H | (rw [hy219]; exact H) | exact H
 have Ny219 := aM_ hy219
 clear hy219
 have H' := aM_ H
 clear H
 go_enter Tryz.func56, Tryz.ntmps56
 go_wp2_with (first | ((with_reducible refine gD_ (N := 2) rfl ?_); refine bE_ ?hg (N := 2) ?hd (cs := #[.slice none 0 0]) (t := 36) ?hr ?_; (case hd => rfl); (case hg => rfl); (case hr => (go_simp; done)); intro gb218 hg w2 hbox hb; have BK218 := aM_ (hbox); have GW218 := aM_ ((by rw [hg]; exact (bZ_ HB.out) : w.heap.size ≤ gb218)); have GE218 := GW218; replace HB := aM_ (bT_ HB.out hb); clear hb hbox hg) | ((with_reducible refine gD_ (N := 10) rfl ?_); refine Kd.R_lit Kd.string _ 9 ?hg (N := 10) ?hd (xs := ([(⟨#[]⟩ : ByteArray)] : List ByteArray)) (inner := [.string (⟨#[]⟩ : ByteArray)]) (ok := fun _ => True) (okp := fun _ => True) ?hr ?hp (fun _ hk => hk) trivial (Below.refl _ _) (Nat.le_refl _) (by simp) ?_; (case hd => rfl); (case hg => rfl); (case hr => (go_simp; done)); (case hp => exact (Reps.one (show Kd.M Kd.string _ _ _ (⟨#[]⟩ : ByteArray) [.string (⟨#[]⟩ : ByteArray)] from rfl) (Reps.none _ _))); intro v220 w3 ho4 hb hg_ hnew_; clear hg_ hnew_; (rw [← Ny219.out] at ho4); have HO221 := aM_ (k5_ ho4 (bZ_ HB.out)); replace BK218 := aM_ (bB_ BK218.out hb); replace HB := aM_ (bT_ HB.out hb); clear hb ho4))
 go_loopg [3, 4] k (fun kq v3 v4 w' => ∃ (x3_1 : List ByteArray) (x4_1 : Int), v4 = .int .i64 x4_1 ∧ Aside0 (spec_l2Of.l0 kq l0 x3_1 x4_1 = some r) ∧ Aside0 (kq ≤ k) ∧ Aside0 (Kd.R Kd.string 9 w' w.heap.size (fun _ => True) v3 x3_1) ∧ Aside0 (w'.heap[gb218]? = some (.cells #[(.slice none 0 0)] 36 (0, 0))) ∧ Aside0 (Below w.heap.size w w'))
 case atStart => exact ⟨(y219), (0), (by rfl), H', ⟨Nat.le_refl _⟩, ⟨HO221.out⟩, ⟨BK218.out⟩, ⟨HB.out⟩⟩
 case round =>
  clear H'
  try clear p2
  obtain ⟨x3_1, x4_1, rfl, HA, HK1, HO_3, BK218, HB⟩ := hrel
  cases gk with
  | zero => exact absurd HA.out (by simp [spec_l2Of.l0])
  | succ k1 =>
   have H := HA.out
   clear HA
   simp only [spec_l2Of.l0] at H
   by_cases c5 : x4_1 < (l0.length : Int)
   ·
    rw [if_pos c5] at H
    have c5b0 := decide_eq_true c5
    clear c5
    have H' := aM_ H
    clear H
    go_wp2
    go_loopg [3, 5] k1 (fun kq v3 v5 w' => ∃ (x3_2 : List ByteArray) (x5_2 : Int), v5 = .int .i64 x5_2 ∧ Aside0 (spec_l2Of.l1 kq l0 x3_2 x4_1 x5_2 = some r) ∧ Aside0 (kq ≤ k1) ∧ Aside0 (Kd.R Kd.string 9 w' w.heap.size (fun _ => True) v3 x3_2) ∧ Aside0 (w'.heap[gb218]? = some (.cells #[(.slice none 0 0)] 36 (0, 0))) ∧ Aside0 (Below w.heap.size w w'))
    case atStart => exact ⟨(x3_1), (1), (by rfl), H', ⟨Nat.le_refl _⟩, ⟨HO_3.out⟩, ⟨BK218.out⟩, ⟨HB.out⟩⟩
    case round =>
     clear H'
     try clear p2
     try clear c5b0
     try clear p2
     obtain ⟨x3_2, x5_2, rfl, HA, HK2, HO_3, BK218, HB⟩ := hrel
     cases gk with
     | zero => exact absurd HA.out (by simp [spec_l2Of.l1])
     | succ k2 =>
      have H := HA.out
      clear HA
      simp only [spec_l2Of.l1] at H
      by_cases c6 : 0 ≤ x4_1
      ·
       rw [if_pos c6] at H
       have c6b0 := decide_eq_true c6
       clear c6
       by_cases c7 : x4_1 < (l0.length : Int)
       ·
        rw [if_pos c7] at H
        have c7b0 := decide_eq_true c7
        clear c7
        by_cases c8 : x5_2 ≤ ((rdOf eB_ l0 x4_1).size : Int)
        ·
         rw [if_pos c8] at H
         have c8b0 := decide_eq_true c8
         clear c8
         by_cases c9 : 0 ≤ x5_2
         ·
          rw [if_pos c9] at H
          have c9b0 := eq_true c9
          have c9b1 := decide_eq_true c9
          clear c9
          have c10b0 := eq_true (of_decide_eq_true ‹_› : x5_2 ≤ ((rdOf eB_ l0 x4_1).size : Int))
          replace H := oB_.mp H
          obtain ⟨t224, A110, H⟩ := H
          try dsimp only at H
          have A11 := aM_ A110
          clear A110
          have H' := aM_ H
          clear H
          have p222 : 0 ≤ (x4_1 : Int) := of_decide_eq_true ‹_›
          have q222 : x4_1 < (l0.length : Int) := of_decide_eq_true ‹_›
          obtain ⟨ad222, e222, hx222_0⟩ := Kd.at_string HR0.out x4_1 p222 q222
          cases e222
          replace hx222_0 := (HB.out.cell (wB_ w _ hx222_0)).trans hx222_0
          replace p222 := eq_true p222
          replace q222 := eq_true q222
          have p223 : 0 ≤ (x4_1 : Int) := of_decide_eq_true ‹_›
          have q223 : x4_1 < (l0.length : Int) := of_decide_eq_true ‹_›
          obtain ⟨ad223, e223, hx223_0⟩ := Kd.at_string HR0.out x4_1 p223 q223
          obtain rfl : ad222 = ad223 := (by injection e223)
          replace hx223_0 := (HB.out.cell (wB_ w _ hx223_0)).trans hx223_0
          replace p223 := eq_true p223
          replace q223 := eq_true q223
          obtain ⟨Ao12, co12, eo12⟩ := kS_ HO_3.out
          subst eo12
          go_wp2_with (first | ((with_reducible refine gC_ (f := 73) rfl ?_); refine goesL_ (some 33) rfl rfl Tryz.func73 (by kernel_rfl) rfl #[.slice Ao12 x3_2.length co12, .string ((rdOf eB_ l0 x4_1).extract 0 (x5_2 : Int).toNat)] rfl (by (try simp only [sD_, sE_, sF_]); rfl) ?_; (with_reducible refine (spec_l2Put.calls (fun k_ => some k_ = (.slice Ao12 x3_2.length co12 : Value).ownBlock) (.slice Ao12 x3_2.length co12) x3_2 ((rdOf eB_ l0 x4_1).extract 0 (x5_2 : Int).toNat) t224 w _ ?side1 ?side2 A11.out).mono ?_); (case side1 => exact HB.out); (case side2 => exact Kd.R_tight rfl HO_3.out); rintro e w13 ⟨v225, rfl, ho0, hb, hkp⟩; refine ⟨_, rfl, ?_⟩; have n0_ := aM_ (blk_kept BK218.out hkp (fun hs_ => (fun e_ => (k6_ HO_3.out BK218.out (by decide)) e_) hs_)); have n1_ := aM_ (kM_ (ok' := fun k_ => True) ho0 (fun k_ hk_ => trivial)); have n2_ := aM_ (hb); clear BK218; clear HB; clear HO_3; have BK218 := n0_; have HO226 := n1_; have HB := n2_; clear n0_ n1_ n2_; (try clear hb); (try clear hkp); (try clear ho0)))
          go_roundg k2
          case measure => have := HK1.out; have := HK2.out; omega
          case rel => exact ⟨(t224), (wrap64 (x5_2 + 1)), (by rfl), H', ⟨by have := HK1.out; have := HK2.out; omega⟩, ⟨HO226.out⟩, ⟨BK218.out⟩, ⟨HB.out⟩⟩
         ·
          rw [if_neg c9] at H
          exact absurd H (by simp)
        ·
         rw [if_neg c8] at H
         have c8b0 := decide_eq_false c8
         clear c8
         have H' := aM_ H
         clear H
         have p222 : 0 ≤ (x4_1 : Int) := of_decide_eq_true ‹_›
         have q222 : x4_1 < (l0.length : Int) := of_decide_eq_true ‹_›
         obtain ⟨ad222, e222, hx222_0⟩ := Kd.at_string HR0.out x4_1 p222 q222
         cases e222
         replace hx222_0 := (HB.out.cell (wB_ w _ hx222_0)).trans hx222_0
         replace p222 := eq_true p222
         replace q222 := eq_true q222
         go_wp2
         go_roundg k2
         case measure => have := HK1.out; have := HK2.out; omega
         case rel => exact ⟨(x3_2), (wrap64 (x4_1 + 1)), (by rfl), H', ⟨by have := HK1.out; have := HK2.out; omega⟩, ⟨HO_3.out⟩, ⟨BK218.out⟩, ⟨HB.out⟩⟩
       ·
        rw [if_neg c7] at H
        exact absurd H (by simp)
      ·
       rw [if_neg c6] at H
       exact absurd H (by simp)
   ·
    rw [if_neg c5] at H
    have c5b0 := decide_eq_false c5
    clear c5
    obtain ⟨y227, hy227⟩ : ∃ y_ : List (S76), y_ = (([] : List (S76))) := ⟨_, rfl⟩
    replace H : (spec_l2Of.l2 k1 l0 x3_1 0 y227) = some r := by first | (rw [hy227]; with_reducible exact H) | (have H2_ := (Option.bind_some _ _).symm.trans H; rw [hy227]; with_reducible exact H2_) | (have H2_ := (Option.bind_some _ _).symm.trans H; with_reducible exact H2_) | with_reducible exact H | (rw [hy227]; exact H) | exact H
    have Ny227 := aM_ hy227
    clear hy227
    have H' := aM_ H
    clear H
    go_wp2_with (first | ((with_reducible refine gD_ (N := 34) rfl ?_); refine Kd.R_lit k76 _ 76 ?hg (N := 34) ?hd (xs := ([] : List (S76))) (inner := []) (ok := fun _ => True) (okp := fun _ => True) ?hr ?hp (fun _ hk => hk) trivial (Below.refl _ _) (Nat.le_refl _) (by simp) ?_; (case hd => rfl); (case hg => rfl); (case hr => (go_simp; done)); (case hp => exact (Reps.none _ _)); intro v228 w14 ho15 hb hg_ hnew_; clear hg_ hnew_; (rw [← Ny227.out] at ho15); replace HO_3 := aM_ (kB_ HO_3.out hb); have HO229 := aM_ (k5_ ho15 (bZ_ HB.out)); replace BK218 := aM_ (bB_ BK218.out hb); replace HB := aM_ (bT_ HB.out hb); clear hb ho15; obtain ⟨Ao16, co16, eo16⟩ := kS_ HO229.out; subst eo16) | ((with_reducible refine gD_ (N := 6) rfl ?_); refine bE_ ?hg (N := 6) ?hd (cs := #[.slice none 0 0]) (t := 36) ?hr ?_; (case hd => rfl); (case hg => rfl); (case hr => (go_simp; done)); intro gb230 hg w17 hbox hb; replace HO_3 := aM_ (kB_ HO_3.out hb); replace HO229 := aM_ (kB_ HO229.out hb); have BK230 := aM_ (hbox); have GW230 := aM_ ((by rw [hg]; exact (bZ_ HB.out) : w.heap.size ≤ gb230)); have GE230 := GW230; replace HB := aM_ (bT_ HB.out hb); have NB218_230 := aM_ ((by rw [hg]; exact Nat.ne_of_lt (bL_ BK218.out) : gb218 ≠ gb230)); have NB230_218 := aM_ NB218_230.out.symm; replace BK218 := aM_ (bB_ BK218.out hb); clear hb hbox hg; have hnb18 := NB230_218.out; have hnc18 := NB218_230.out; have hcz19_0 : w17.cell? ⟨gb230, 0, none⟩ = some (.slice none 0 0) := (bC_ BK230.out 0).trans rfl; have hfz19_0 := bF_ BK230.out 0))
    go_loopg [7] k1 (fun kq v7 w' => ∃ (x7_2 : Int) (x231000_2 : List (S76)) (u231000 : Value), v7 = .int .i64 x7_2 ∧ Aside0 (spec_l2Of.l2 kq l0 x3_1 x7_2 x231000_2 = some r) ∧ Aside0 (kq ≤ k1) ∧ Aside0 (Kd.R Kd.string 9 w' w.heap.size (fun _ => True) u3 x3_1) ∧ Aside0 (Kd.R k76 76 w' w.heap.size (fun _ => True) u231000 x231000_2) ∧ Aside0 (w'.heap[gb218]? = some (.cells #[(.slice none 0 0)] 36 (0, 0))) ∧ Aside0 (w'.heap[gb230]? = some (.cells #[u231000] 36 (0, 0))) ∧ Aside0 (Below w.heap.size w w'))
    case atStart => exact ⟨(0), (y227), (.slice Ao16 y227.length co16), (by rfl), H', ⟨Nat.le_refl _⟩, ⟨by exact kM_ (kF_ (p := ⟨gb230, 0, none⟩) (kT_ HO_3.out BK230.out (by decide)) (fun _ hk => hk.2) (.slice Ao16 y227.length co16)) (fun _ hk => trivial)⟩, ⟨by exact kM_ (kF_ (p := ⟨gb230, 0, none⟩) (kT_ HO229.out BK230.out (by decide)) (fun _ hk => hk.2) (.slice Ao16 y227.length co16)) (fun _ hk => trivial)⟩, ⟨by refine bR_ ?_ NB218_230.out _; exact BK218.out⟩, ⟨by refine bP_ (cs := #[.slice none 0 0]) ?_ 0 _ rfl; exact BK230.out⟩, ⟨by repeat (first | (with_reducible first | exact HB.out | apply bA_ | apply bN_ | apply bD_ | refine bS_ ?_ GE218.out | refine bS_ ?_ GE230.out) | exact HB.out)⟩⟩
    case round =>
     clear H'
     try clear p2
     try clear q2
     try clear hx2
     try clear c5b0
     try clear c6b0
     try clear p6
     try clear c7b0
     try clear c8b0
     try clear c9b0
     try clear c9b1
     try clear c10b0
     try clear hcz19_0
     try clear hfz19_0
     try clear hx222_0
     try clear hx223_0
     try clear p2
     try clear p222
     try clear p223
     try clear q222
     try clear q223
     obtain ⟨x7_2, x231000_2, u231000, rfl, HA, HK2, HO_3, HO_231000, BK218, BK230, HB⟩ := hrel
     cases gk with
     | zero => exact absurd HA.out (by simp [spec_l2Of.l2])
     | succ k2 =>
      have H := HA.out
      clear HA
      simp only [spec_l2Of.l2] at H
      by_cases c20 : x7_2 < (x3_1.length : Int)
      ·
       rw [if_pos c20] at H
       have c20b0 := decide_eq_true c20
       clear c20
       by_cases c21 : 0 ≤ x7_2
       ·
        rw [if_pos c21] at H
        have c21b0 := decide_eq_true c21
        clear c21
        replace H := oB_.mp H
        obtain ⟨t232, A220, H⟩ := H
        try dsimp only at H
        have A22 := aM_ A220
        clear A220
        by_cases c23 : x7_2 > 0
        ·
         rw [if_pos c23] at H
         have c23b0 := decide_eq_true c23
         clear c23
         obtain ⟨ji24, hji24⟩ : ∃ j_ : Int, (wrap64 (((rdOf eB_ x3_1 x7_2).size : Int) - 1)) = j_ := ⟨_, rfl⟩
         replace H : (if 0 ≤ (ji24) then (if (ji24) < ((rdOf eB_ x3_1 x7_2).size : Int) then (if (ji24) ≤ ((rdOf eB_ x3_1 x7_2).size : Int) then ((spec_l2Place.f k2 x3_1 ((rdOf eB_ x3_1 x7_2).extract 0 ((ji24) : Int).toNat)).bind fun t234 => (if x231000_2.length < 5864062014805 then (spec_l2Of.l2 k2 l0 x3_1 (wrap64 (x7_2 + 1)) (x231000_2 ++ [(⟨((bt (rdOf eB_ x3_1 x7_2) (ji24)) - 97) % 256, t234, t232⟩ : S76)])) else (none))) else (none)) else (none)) else (none)) = some r := by first | (rw [hji24] at H; exact H) | (simp only [hji24] at H ⊢; exact H)
         (try rw [hji24] at A22)
         have hji24w : (IntKind.i64.wrap (((rdOf eB_ x3_1 x7_2).size : Int) - 1)) = ji24 := (i6_ _).trans hji24
         by_cases c25 : 0 ≤ (ji24)
         ·
          rw [if_pos c25] at H
          have c25b0 := decide_eq_true c25
          clear c25
          by_cases c26 : (ji24) < ((rdOf eB_ x3_1 x7_2).size : Int)
          ·
           rw [if_pos c26] at H
           have c26b0 := decide_eq_true c26
           clear c26
           have c28b0 := eq_true (of_decide_eq_true ‹_› : 0 ≤ (ji24))
           by_cases c29 : (ji24) ≤ ((rdOf eB_ x3_1 x7_2).size : Int)
           ·
            rw [if_pos c29] at H
            have c29b0 := eq_true c29
            have c29b1 := decide_eq_true c29
            clear c29
            replace H := oB_.mp H
            obtain ⟨t234, A300, H⟩ := H
            try dsimp only at H
            have A30 := aM_ A300
            clear A300
            by_cases c31 : x231000_2.length < 5864062014805
            ·
             rw [if_pos c31] at H
             have LMc31 := aM_ c31
             clear c31
             obtain ⟨y235, hy235⟩ : ∃ y_ : List (S76), y_ = (x231000_2 ++ [(⟨((bt (rdOf eB_ x3_1 x7_2) (ji24)) - 97) % 256, t234, t232⟩ : S76)]) := ⟨_, rfl⟩
             replace H : (spec_l2Of.l2 k2 l0 x3_1 (wrap64 (x7_2 + 1)) y235) = some r := by first | (rw [hy235]; with_reducible exact H) | (have H2_ := (Option.bind_some _ _).symm.trans H; rw [hy235]; with_reducible exact H2_) | (have H2_ := (Option.bind_some _ _).symm.trans H; with_reducible exact H2_) | with_reducible exact H | (rw [hy235]; exact H) | exact H
             have Ny235 := aM_ hy235
             clear hy235
             have H' := aM_ H
             clear H
             obtain ⟨Ao32, co32, eo32⟩ := kS_ HO_3.out
             subst eo32
             have p231 : 0 ≤ (x7_2 : Int) := of_decide_eq_true ‹_›
             have q231 : x7_2 < (x3_1.length : Int) := of_decide_eq_true ‹_›
             obtain ⟨ad231, e231, hx231_0⟩ := Kd.at_string (kR_ HO_3.out).2.2 x7_2 p231 q231
             cases e231
             replace p231 := eq_true p231
             replace q231 := eq_true q231
             go_wp2_with (first | ((with_reducible refine gC_ (f := 28) rfl ?_); refine goesL_ (some 48) rfl rfl Tryz.func28 (by kernel_rfl) rfl #[.slice A0 l0.length c0, .string (rdOf eB_ x3_1 x7_2)] rfl (by (try simp only [sD_, sE_, sF_]); rfl) ?_; (with_reducible refine (spec_l2Has.calls k2 _ _ l0 (rdOf eB_ x3_1 x7_2) t232 _ ?side1 ?side2 A22.out).mono ?_); (case side1 => repeat (first | exact (k4_ HR0.out HB.out) | (with_reducible refine Kd.C_alloc ?_ _) | (with_reducible refine Kd.C_drewN ?_ _) | (with_reducible refine Kd.C_drew ?_))); (case side2 => exact HC0.out); rintro e w' ⟨rfl, ⟨nd, rfl⟩⟩; refine ⟨_, rfl, ?_⟩; (try (rw [drewN_self wr]; generalize hq_ : World.drewN wr _ = wr; have n0_ : Aside0 (Kd.R k76 76 wr w.heap.size (fun _ => True) u231000 x231000_2) := ⟨by rw [← hq_]; exact (by (with_reducible repeat (first | apply k1_ | apply k2_ | apply k3_)); exact HO_231000.out)⟩; have n1_ : Aside0 (Kd.R Kd.string 9 wr w.heap.size (fun _ => True) (.slice (some ad231) x3_1.length co32) x3_1) := ⟨by rw [← hq_]; exact (by (with_reducible repeat (first | apply k1_ | apply k2_ | apply k3_)); exact HO_3.out)⟩; have n2_ : Aside0 (wr.heap[gb218]? = some (.cells #[.slice none 0 0] 36 (0, 0))) := ⟨by rw [← hq_]; exact (by (with_reducible repeat (first | refine b2_ ?_ _ | refine b1_ ?_ | refine b3_ ?_ _)); exact BK218.out)⟩; have n3_ : Aside0 (wr.heap[gb230]? = some (.cells #[u231000] 36 (0, 0))) := ⟨by rw [← hq_]; exact (by (with_reducible repeat (first | refine b2_ ?_ _ | refine b1_ ?_ | refine b3_ ?_ _)); exact BK230.out)⟩; have n4_ : Aside0 (Below w.heap.size w wr) := ⟨by rw [← hq_]; exact (by repeat (first | (with_reducible first | exact HB.out | apply bA_ | apply bN_ | apply bD_ | refine bS_ ?_ GE218.out | refine bS_ ?_ GE230.out) | exact HB.out))⟩; clear HO_231000 HO_3 BK218 BK230 HB hq_; have HO_231000 := n0_; have HO_3 := n1_; have BK218 := n2_; have BK230 := n3_; have HB := n4_; clear n0_ n1_ n2_ n3_ n4_))) | ((with_reducible refine gD_ (N := 9) rfl ?_); refine bE_ ?hg (N := 9) ?hd (cs := #[.int .i64 0, .int .i64 0, .bool false]) (t := 76) ?hr ?_; (case hd => rfl); (case hg => rfl); (case hr => (go_simp; done)); intro gb233 hg w33 hbox hb; replace HO_3 := aM_ (kB_ HO_3.out hb); replace HO_231000 := aM_ (kB_ (Kd.R_elderB HO_231000.out gb233 (Nat.le_of_eq hg.symm)) hb); have BK233 := aM_ (hbox); have GW233 := aM_ ((by rw [hg]; exact (bZ_ HB.out) : w.heap.size ≤ gb233)); have GE233 := GW233; replace HB := aM_ (bT_ HB.out hb); have NB218_233 := aM_ ((by rw [hg]; exact Nat.ne_of_lt (bL_ BK218.out) : gb218 ≠ gb233)); have NB233_218 := aM_ NB218_233.out.symm; replace BK218 := aM_ (bB_ BK218.out hb); have NB230_233 := aM_ ((by rw [hg]; exact Nat.ne_of_lt (bL_ BK230.out) : gb230 ≠ gb233)); have NB233_230 := aM_ NB230_233.out.symm; replace BK230 := aM_ (bB_ BK230.out hb); clear hb hbox hg; have hnb34 := NB233_218.out; have hnc34 := NB218_233.out; have hnb35 := NB233_230.out; have hnc35 := NB230_233.out; have hcz36_0 : w33.cell? ⟨gb233, 0, none⟩ = some (.int .i64 0) := (bC_ BK233.out 0).trans rfl; have hcz36_1 : w33.cell? ⟨gb233, 1, none⟩ = some (.int .i64 0) := (bC_ BK233.out 1).trans rfl; have hcz36_2 : w33.cell? ⟨gb233, 2, none⟩ = some (.bool false) := (bC_ BK233.out 2).trans rfl; have hfz36_0 := bF_ BK233.out 0; have hfz36_1 := bF_ BK233.out 1; have hfz36_2 := bF_ BK233.out 2; have p27 : 0 ≤ ((ji24) : Int) := of_decide_eq_true ‹_›; have q27 : (ji24) < ((rdOf eB_ x3_1 x7_2).size : Int) := of_decide_eq_true ‹_›; have hx27 := bt_at (rdOf eB_ x3_1 x7_2) (ji24); replace p27 := eq_true p27; replace q27 := eq_true q27) | ((with_reducible refine gC_ (f := 77) rfl ?_); refine goesL_ (some 66) rfl rfl Tryz.func77 (by kernel_rfl) rfl #[.slice (some ad231) x3_1.length co32, .string ((rdOf eB_ x3_1 x7_2).extract 0 ((ji24) : Int).toNat)] rfl (by (try simp only [sD_, sE_, sF_]); rfl) ?_; (with_reducible refine (spec_l2Place.calls k2 _ _ x3_1 ((rdOf eB_ x3_1 x7_2).extract 0 ((ji24) : Int).toNat) t234 _ ?side1 ?side2 A30.out).mono ?_); (case side1 => refine (kR_ (e := 9) (base := w.heap.size) (ok := fun k_ => True) (n := x3_1.length) (c := co32) ?_).2.2; exact (by exact (kM_ (kF_ (p := ⟨gb233, 0, none⟩) (kF_ (p := ⟨gb233, 2, none⟩) (kF_ (p := ⟨gb233, 1, none⟩) (kF_ (p := ⟨gb233, 0, none⟩) (kT_ HO_3.out BK233.out (by decide)) (fun _ hk => hk.2) (.int .i64 (-1))) (fun _ hk => hk.2) (.int .i64 (-1))) (fun _ hk => hk.2) (.bool t232)) (fun _ hk => hk.2) (.int .i64 (((bt (rdOf eB_ x3_1 x7_2) (ji24)) - 97) % 256))) (fun _ h_ => h_.1)))); (case side2 => exact (kR_ HO_3.out).2.1); rintro e w' ⟨rfl, ⟨nd, rfl⟩⟩; refine ⟨_, rfl, ?_⟩; have m0_ : Aside0 (Kd.R Kd.string 9 (((((w33.setCell ⟨gb233, 0, none⟩ (.int .i64 (-1))).setCell ⟨gb233, 1, none⟩ (.int .i64 (-1))).setCell ⟨gb233, 2, none⟩ (.bool t232)).setCell ⟨gb233, 0, none⟩ (.int .i64 (((bt (rdOf eB_ x3_1 x7_2) (ji24)) - 97) % 256))).drewN nd) w.heap.size (fun _ => True) (.slice (some ad231) x3_1.length co32) x3_1) := ⟨by (with_reducible repeat (first | apply k1_ | apply k2_ | apply k3_)); exact kM_ (kF_ (p := ⟨gb233, 0, none⟩) (kF_ (p := ⟨gb233, 2, none⟩) (kF_ (p := ⟨gb233, 1, none⟩) (kF_ (p := ⟨gb233, 0, none⟩) (kT_ HO_3.out BK233.out (by decide)) (fun _ hk => hk.2) (.int .i64 (-1))) (fun _ hk => hk.2) (.int .i64 (-1))) (fun _ hk => hk.2) (.bool t232)) (fun _ hk => hk.2) (.int .i64 (((bt (rdOf eB_ x3_1 x7_2) (ji24)) - 97) % 256))) (fun _ _ => trivial)⟩; have m1_ : Aside0 (Kd.R k76 76 (((((w33.setCell ⟨gb233, 0, none⟩ (.int .i64 (-1))).setCell ⟨gb233, 1, none⟩ (.int .i64 (-1))).setCell ⟨gb233, 2, none⟩ (.bool t232)).setCell ⟨gb233, 0, none⟩ (.int .i64 (((bt (rdOf eB_ x3_1 x7_2) (ji24)) - 97) % 256))).drewN nd) w.heap.size (fun k_ => True ∧ k_ ≠ gb233) u231000 x231000_2) := ⟨by (with_reducible repeat (first | apply k1_ | apply k2_ | apply k3_)); exact kM_ (kF_ (p := ⟨gb233, 0, none⟩) (kF_ (p := ⟨gb233, 2, none⟩) (kF_ (p := ⟨gb233, 1, none⟩) (kF_ (p := ⟨gb233, 0, none⟩) (kM_ HO_231000.out (fun k_ hk => (⟨hk, hk.2⟩ : _ ∧ k_ ≠ gb233))) (fun _ hk => hk.2) (.int .i64 (-1))) (fun _ hk => hk.2) (.int .i64 (-1))) (fun _ hk => hk.2) (.bool t232)) (fun _ hk => hk.2) (.int .i64 (((bt (rdOf eB_ x3_1 x7_2) (ji24)) - 97) % 256))) (fun _ hk => ⟨trivial, hk.2⟩)⟩; have m2_ : Aside0 ((((((w33.setCell ⟨gb233, 0, none⟩ (.int .i64 (-1))).setCell ⟨gb233, 1, none⟩ (.int .i64 (-1))).setCell ⟨gb233, 2, none⟩ (.bool t232)).setCell ⟨gb233, 0, none⟩ (.int .i64 (((bt (rdOf eB_ x3_1 x7_2) (ji24)) - 97) % 256))).drewN nd).heap[gb218]? = some (.cells #[.slice none 0 0] 36 (0, 0))) := ⟨by (with_reducible repeat (first | refine b2_ ?_ _ | refine b1_ ?_ | refine b3_ ?_ _)); refine bR_ ?_ NB218_233.out _; refine bR_ ?_ NB218_233.out _; refine bR_ ?_ NB218_233.out _; refine bR_ ?_ NB218_233.out _; exact BK218.out⟩; have m3_ : Aside0 ((((((w33.setCell ⟨gb233, 0, none⟩ (.int .i64 (-1))).setCell ⟨gb233, 1, none⟩ (.int .i64 (-1))).setCell ⟨gb233, 2, none⟩ (.bool t232)).setCell ⟨gb233, 0, none⟩ (.int .i64 (((bt (rdOf eB_ x3_1 x7_2) (ji24)) - 97) % 256))).drewN nd).heap[gb230]? = some (.cells #[u231000] 36 (0, 0))) := ⟨by (with_reducible repeat (first | refine b2_ ?_ _ | refine b1_ ?_ | refine b3_ ?_ _)); refine bR_ ?_ NB230_233.out _; refine bR_ ?_ NB230_233.out _; refine bR_ ?_ NB230_233.out _; refine bR_ ?_ NB230_233.out _; exact BK230.out⟩; have m4_ : Aside0 ((((((w33.setCell ⟨gb233, 0, none⟩ (.int .i64 (-1))).setCell ⟨gb233, 1, none⟩ (.int .i64 (-1))).setCell ⟨gb233, 2, none⟩ (.bool t232)).setCell ⟨gb233, 0, none⟩ (.int .i64 (((bt (rdOf eB_ x3_1 x7_2) (ji24)) - 97) % 256))).drewN nd).heap[gb233]? = some (.cells #[.int .i64 (((bt (rdOf eB_ x3_1 x7_2) (ji24)) - 97) % 256), .int .i64 (-1), .bool t232] 76 (0, 0))) := ⟨by (with_reducible repeat (first | refine b2_ ?_ _ | refine b1_ ?_ | refine b3_ ?_ _)); refine bP_ (cs := #[.int .i64 (-1), .int .i64 (-1), .bool t232]) ?_ 0 _ rfl; refine bP_ (cs := #[.int .i64 (-1), .int .i64 (-1), .bool false]) ?_ 2 _ rfl; refine bP_ (cs := #[.int .i64 (-1), .int .i64 0, .bool false]) ?_ 1 _ rfl; refine bP_ (cs := #[.int .i64 0, .int .i64 0, .bool false]) ?_ 0 _ rfl; exact BK233.out⟩; have m5_ : Aside0 (Below w.heap.size w (((((w33.setCell ⟨gb233, 0, none⟩ (.int .i64 (-1))).setCell ⟨gb233, 1, none⟩ (.int .i64 (-1))).setCell ⟨gb233, 2, none⟩ (.bool t232)).setCell ⟨gb233, 0, none⟩ (.int .i64 (((bt (rdOf eB_ x3_1 x7_2) (ji24)) - 97) % 256))).drewN nd)) := ⟨by repeat (first | (with_reducible first | exact HB.out | apply bA_ | apply bN_ | apply bD_ | refine bS_ ?_ GE218.out | refine bS_ ?_ GE230.out | refine bS_ ?_ GE233.out) | exact HB.out)⟩; clear HO_3 HO_231000 BK218 BK230 BK233 HB; generalize (((((w33.setCell ⟨gb233, 0, none⟩ (.int .i64 (-1))).setCell ⟨gb233, 1, none⟩ (.int .i64 (-1))).setCell ⟨gb233, 2, none⟩ (.bool t232)).setCell ⟨gb233, 0, none⟩ (.int .i64 (((bt (rdOf eB_ x3_1 x7_2) (ji24)) - 97) % 256))).drewN nd) = w339 at m0_ m1_ m2_ m3_ m4_ m5_ ⊢; have HO_3 := m0_; have HO_231000 := m1_; have BK218 := m2_; have BK230 := m3_; have BK233 := m4_; have HB := m5_; clear m0_ m1_ m2_ m3_ m4_ m5_; have hczz_0 : w339.cell? ⟨gb233, 0, none⟩ = some (.int .i64 (((bt (rdOf eB_ x3_1 x7_2) (ji24)) - 97) % 256)) := (bC_ BK233.out 0).trans rfl; have hfzz_0 := bF_ BK233.out 0; have hczz_1 : w339.cell? ⟨gb233, 1, none⟩ = some (.int .i64 (-1)) := (bC_ BK233.out 1).trans rfl; have hfzz_1 := bF_ BK233.out 1; have hczz_2 : w339.cell? ⟨gb233, 2, none⟩ = some (.bool t232) := (bC_ BK233.out 2).trans rfl; have hfzz_2 := bF_ BK233.out 2; have hnb37 := NB230_218.out; have hnc37 := NB218_230.out; have hcz38_0 : w339.cell? ⟨gb230, 0, none⟩ = some (u231000) := (bC_ BK230.out 0).trans rfl; have hfz38_0 := bF_ BK230.out 0) | ((with_reducible refine gate_builtin (b := .append) (xs := #[.tmp 69, .tmp 71]) rfl ?_); at_builtin; refine Kd.R_append k76 (w0 := w) w.heap.size rfl (.tmp 69) (.tmp 71) 34 76 (.agg #[(.int .i64 0), (.int .i64 0), (.bool false)]) 24 rfl Tryz.underlying34 info76 rfl (by decide) (by omega) u231000 x231000_2 (⟨((bt (rdOf eB_ x3_1 x7_2) (ji24)) - 97) % 256, t234, t232⟩ : S76) [.int .i64 (((bt (rdOf eB_ x3_1 x7_2) (ji24)) - 97) % 256), .int .i64 t234, .bool t232] (fun k_ => k_ ≠ gb233) (fun _ => False) rfl (by (go_simp; done)) ?aP (fun _ hk => hk.elim) ?aF ?aO ?aB ?aS ?aL ?_; (case aP => exact k76_mkM _ _ _ (⟨((bt (rdOf eB_ x3_1 x7_2) (ji24)) - 97) % 256, t234, t232⟩ : S76)); (case aB => exact (by repeat (first | (with_reducible first | exact HB.out | apply bA_ | apply bN_ | apply bD_ | refine bS_ ?_ GE218.out | refine bS_ ?_ GE230.out | refine bS_ ?_ GE233.out) | exact HB.out))); (case aF => exact (fun k_ hk => Kd.freshB (g := gb233) (o := .cells #[.int .i64 (((bt (rdOf eB_ x3_1 x7_2) (ji24)) - 97) % 256), .int .i64 t234, .bool t232] 76 (0, 0)) (by refine bP_ (cs := #[.int .i64 (((bt (rdOf eB_ x3_1 x7_2) (ji24)) - 97) % 256), .int .i64 (-1), .bool t232]) ?_ 1 _ rfl; exact BK233.out) k_ hk)); (case aO => exact (by exact kM_ (kF_ (p := ⟨gb233, 1, none⟩) (kM_ HO_231000.out (fun k_ hk => (⟨hk, hk.2⟩ : _ ∧ k_ ≠ gb233))) (fun _ hk => hk.2) (.int .i64 t234)) (fun _ hk => hk.1.2))); (case aS => exact (bZ_ (by repeat (first | (with_reducible first | exact HB.out | apply bA_ | apply bN_ | apply bD_ | refine bS_ ?_ GE218.out | refine bS_ ?_ GE230.out | refine bS_ ?_ GE233.out) | exact HB.out)))); (case aL => have := LMc31.out; omega); intro v236 w39 ho hb hg hat; rw [← Ny235.out] at ho; have n0_ := aM_ (Kd.R_over' (by exact (kM_ (kF_ (p := ⟨gb233, 1, none⟩) (kT_ HO_3.out BK233.out (by decide)) (fun _ hk => hk.2) (.int .i64 t234)) (fun _ h_ => h_.1))) (Kd.R_typed (by exact (kM_ (kF_ (p := ⟨gb233, 1, none⟩) (kM_ HO_231000.out (fun k_ hk => (⟨hk, hk.2⟩ : _ ∧ k_ ≠ gb233))) (fun _ hk => hk.2) (.int .i64 t234)) (fun _ h_ => h_.1)))) (by decide) hg); have n1_ := aM_ (blk_grown (g := gb218) (o := .cells #[.slice none 0 0] 36 (0, 0)) (by refine bR_ ?_ NB218_233.out _; exact BK218.out) hg (k6_ HO_231000.out BK218.out (by decide))); have n2_ := aM_ (blk_grown (g := gb230) (o := .cells #[u231000] 36 (0, 0)) (by refine bR_ ?_ NB230_233.out _; exact BK230.out) hg (k6_ HO_231000.out BK230.out (by decide))); have n3_ := aM_ (blk_grown (g := gb233) (o := .cells #[.int .i64 (((bt (rdOf eB_ x3_1 x7_2) (ji24)) - 97) % 256), .int .i64 t234, .bool t232] 76 (0, 0)) (by refine bP_ (cs := #[.int .i64 (((bt (rdOf eB_ x3_1 x7_2) (ji24)) - 97) % 256), .int .i64 (-1), .bool t232]) ?_ 1 _ rfl; exact BK233.out) hg (Kd.R_away HO_231000.out (fun _ hk => hk.2))); have n4_ := aM_ (hb); have n5_ := aM_ (ho); clear HO_3; clear BK218; clear BK230; clear BK233; clear HB; clear HO_231000; have HO_3 := n0_; have BK218 := n1_; have BK230 := n2_; have BK233 := n3_; have HB := n4_; have HO237 := n5_; clear n0_ n1_ n2_ n3_ n4_ n5_; clear ho hb hg hat; obtain ⟨Ao40, co40, eo40⟩ := kS_ HO237.out; subst eo40; have hcz41_0 : w39.cell? ⟨gb230, 0, none⟩ = some (u231000) := (bC_ BK230.out 0).trans rfl; have hfz41_0 := bF_ BK230.out 0))
             go_roundg k2
             case measure => have := HK1.out; have := HK2.out; omega
             case rel => exact ⟨(wrap64 (x7_2 + 1)), (y235), (.slice Ao40 y235.length co40), (by rfl), H', ⟨by have := HK1.out; have := HK2.out; omega⟩, ⟨by exact kM_ (kF_ (p := ⟨gb230, 0, none⟩) (kT_ HO_3.out BK230.out (by decide)) (fun _ hk => hk.2) (.slice Ao40 y235.length co40)) (fun _ hk => trivial)⟩, ⟨by exact kM_ (kF_ (p := ⟨gb230, 0, none⟩) (kT_ HO237.out BK230.out (by decide)) (fun _ hk => hk.2) (.slice Ao40 y235.length co40)) (fun _ hk => trivial)⟩, ⟨by refine bR_ ?_ NB218_230.out _; exact BK218.out⟩, ⟨by refine bP_ (cs := #[u231000]) ?_ 0 _ rfl; exact BK230.out⟩, ⟨by repeat (first | (with_reducible first | exact HB.out | apply bA_ | apply bN_ | apply bD_ | refine bS_ ?_ GE218.out | refine bS_ ?_ GE230.out | refine bS_ ?_ GE233.out) | exact HB.out)⟩⟩
            ·
             rw [if_neg c31] at H
             exact absurd H (by simp)
           ·
            rw [if_neg c29] at H
            exact absurd H (by simp)
          ·
           rw [if_neg c26] at H
           exact absurd H (by simp)
         ·
          rw [if_neg c25] at H
          exact absurd H (by simp)
        ·
         rw [if_neg c23] at H
         have c23b0 := decide_eq_false c23
         clear c23
         by_cases c42 : x231000_2.length < 5864062014805
         ·
          rw [if_pos c42] at H
          have LMc42 := aM_ c42
          clear c42
          obtain ⟨y238, hy238⟩ : ∃ y_ : List (S76), y_ = (x231000_2 ++ [(⟨(-1), (-1), t232⟩ : S76)]) := ⟨_, rfl⟩
          replace H : (spec_l2Of.l2 k2 l0 x3_1 (wrap64 (x7_2 + 1)) y238) = some r := by first | (rw [hy238]; with_reducible exact H) | (have H2_ := (Option.bind_some _ _).symm.trans H; rw [hy238]; with_reducible exact H2_) | (have H2_ := (Option.bind_some _ _).symm.trans H; with_reducible exact H2_) | with_reducible exact H | (rw [hy238]; exact H) | exact H
          have Ny238 := aM_ hy238
          clear hy238
          have H' := aM_ H
          clear H
          obtain ⟨Ao43, co43, eo43⟩ := kS_ HO_3.out
          subst eo43
          have p231 : 0 ≤ (x7_2 : Int) := of_decide_eq_true ‹_›
          have q231 : x7_2 < (x3_1.length : Int) := of_decide_eq_true ‹_›
          obtain ⟨ad231, e231, hx231_0⟩ := Kd.at_string (kR_ HO_3.out).2.2 x7_2 p231 q231
          cases e231
          replace p231 := eq_true p231
          replace q231 := eq_true q231
          go_wp2_with (first | ((with_reducible refine gC_ (f := 28) rfl ?_); refine goesL_ (some 48) rfl rfl Tryz.func28 (by kernel_rfl) rfl #[.slice A0 l0.length c0, .string (rdOf eB_ x3_1 x7_2)] rfl (by (try simp only [sD_, sE_, sF_]); rfl) ?_; (with_reducible refine (spec_l2Has.calls k2 _ _ l0 (rdOf eB_ x3_1 x7_2) t232 _ ?side1 ?side2 A22.out).mono ?_); (case side1 => repeat (first | exact (k4_ HR0.out HB.out) | (with_reducible refine Kd.C_alloc ?_ _) | (with_reducible refine Kd.C_drewN ?_ _) | (with_reducible refine Kd.C_drew ?_))); (case side2 => exact HC0.out); rintro e w' ⟨rfl, ⟨nd, rfl⟩⟩; refine ⟨_, rfl, ?_⟩; (try (rw [drewN_self wr]; generalize hq_ : World.drewN wr _ = wr; have n0_ : Aside0 (Kd.R k76 76 wr w.heap.size (fun _ => True) u231000 x231000_2) := ⟨by rw [← hq_]; exact (by (with_reducible repeat (first | apply k1_ | apply k2_ | apply k3_)); exact HO_231000.out)⟩; have n1_ : Aside0 (Kd.R Kd.string 9 wr w.heap.size (fun _ => True) (.slice (some ad231) x3_1.length co43) x3_1) := ⟨by rw [← hq_]; exact (by (with_reducible repeat (first | apply k1_ | apply k2_ | apply k3_)); exact HO_3.out)⟩; have n2_ : Aside0 (wr.heap[gb218]? = some (.cells #[.slice none 0 0] 36 (0, 0))) := ⟨by rw [← hq_]; exact (by (with_reducible repeat (first | refine b2_ ?_ _ | refine b1_ ?_ | refine b3_ ?_ _)); exact BK218.out)⟩; have n3_ : Aside0 (wr.heap[gb230]? = some (.cells #[u231000] 36 (0, 0))) := ⟨by rw [← hq_]; exact (by (with_reducible repeat (first | refine b2_ ?_ _ | refine b1_ ?_ | refine b3_ ?_ _)); exact BK230.out)⟩; have n4_ : Aside0 (Below w.heap.size w wr) := ⟨by rw [← hq_]; exact (by repeat (first | (with_reducible first | exact HB.out | apply bA_ | apply bN_ | apply bD_ | refine bS_ ?_ GE218.out | refine bS_ ?_ GE230.out) | exact HB.out))⟩; clear HO_231000 HO_3 BK218 BK230 HB hq_; have HO_231000 := n0_; have HO_3 := n1_; have BK218 := n2_; have BK230 := n3_; have HB := n4_; clear n0_ n1_ n2_ n3_ n4_))) | ((with_reducible refine gD_ (N := 9) rfl ?_); refine bE_ ?hg (N := 9) ?hd (cs := #[.int .i64 0, .int .i64 0, .bool false]) (t := 76) ?hr ?_; (case hd => rfl); (case hg => rfl); (case hr => (go_simp; done)); intro gb233 hg w44 hbox hb; replace HO_3 := aM_ (kB_ HO_3.out hb); replace HO_231000 := aM_ (kB_ (Kd.R_elderB HO_231000.out gb233 (Nat.le_of_eq hg.symm)) hb); have BK233 := aM_ (hbox); have GW233 := aM_ ((by rw [hg]; exact (bZ_ HB.out) : w.heap.size ≤ gb233)); have GE233 := GW233; replace HB := aM_ (bT_ HB.out hb); have NB218_233 := aM_ ((by rw [hg]; exact Nat.ne_of_lt (bL_ BK218.out) : gb218 ≠ gb233)); have NB233_218 := aM_ NB218_233.out.symm; replace BK218 := aM_ (bB_ BK218.out hb); have NB230_233 := aM_ ((by rw [hg]; exact Nat.ne_of_lt (bL_ BK230.out) : gb230 ≠ gb233)); have NB233_230 := aM_ NB230_233.out.symm; replace BK230 := aM_ (bB_ BK230.out hb); clear hb hbox hg; have hnb45 := NB233_218.out; have hnc45 := NB218_233.out; have hnb46 := NB233_230.out; have hnc46 := NB230_233.out; have hcz47_0 : w44.cell? ⟨gb233, 0, none⟩ = some (.int .i64 0) := (bC_ BK233.out 0).trans rfl; have hcz47_1 : w44.cell? ⟨gb233, 1, none⟩ = some (.int .i64 0) := (bC_ BK233.out 1).trans rfl; have hcz47_2 : w44.cell? ⟨gb233, 2, none⟩ = some (.bool false) := (bC_ BK233.out 2).trans rfl; have hfz47_0 := bF_ BK233.out 0; have hfz47_1 := bF_ BK233.out 1; have hfz47_2 := bF_ BK233.out 2; have hnb48 := NB230_218.out; have hnc48 := NB218_230.out; have hcz49_0 : w44.cell? ⟨gb230, 0, none⟩ = some (u231000) := (bC_ BK230.out 0).trans rfl; have hfz49_0 := bF_ BK230.out 0) | ((with_reducible refine gate_builtin (b := .append) (xs := #[.tmp 69, .tmp 71]) rfl ?_); at_builtin; refine Kd.R_append k76 (w0 := w) w.heap.size rfl (.tmp 69) (.tmp 71) 34 76 (.agg #[(.int .i64 0), (.int .i64 0), (.bool false)]) 24 rfl Tryz.underlying34 info76 rfl (by decide) (by omega) u231000 x231000_2 (⟨(-1), (-1), t232⟩ : S76) [.int .i64 (-1), .int .i64 (-1), .bool t232] (fun k_ => k_ ≠ gb233) (fun _ => False) rfl (by (go_simp; done)) ?aP (fun _ hk => hk.elim) ?aF ?aO ?aB ?aS ?aL ?_; (case aP => exact k76_mkM _ _ _ (⟨(-1), (-1), t232⟩ : S76)); (case aB => exact (by repeat (first | (with_reducible first | exact HB.out | apply bA_ | apply bN_ | apply bD_ | refine bS_ ?_ GE218.out | refine bS_ ?_ GE230.out | refine bS_ ?_ GE233.out) | exact HB.out))); (case aF => exact (fun k_ hk => Kd.freshB (g := gb233) (o := .cells #[.int .i64 (-1), .int .i64 (-1), .bool t232] 76 (0, 0)) (by refine bP_ (cs := #[.int .i64 (-1), .int .i64 (-1), .bool false]) ?_ 2 _ rfl; refine bP_ (cs := #[.int .i64 (-1), .int .i64 0, .bool false]) ?_ 1 _ rfl; refine bP_ (cs := #[.int .i64 0, .int .i64 0, .bool false]) ?_ 0 _ rfl; exact BK233.out) k_ hk)); (case aO => exact (by exact kM_ (kF_ (p := ⟨gb233, 2, none⟩) (kF_ (p := ⟨gb233, 1, none⟩) (kF_ (p := ⟨gb233, 0, none⟩) (kM_ HO_231000.out (fun k_ hk => (⟨hk, hk.2⟩ : _ ∧ k_ ≠ gb233))) (fun _ hk => hk.2) (.int .i64 (-1))) (fun _ hk => hk.2) (.int .i64 (-1))) (fun _ hk => hk.2) (.bool t232)) (fun _ hk => hk.1.2))); (case aS => exact (bZ_ (by repeat (first | (with_reducible first | exact HB.out | apply bA_ | apply bN_ | apply bD_ | refine bS_ ?_ GE218.out | refine bS_ ?_ GE230.out | refine bS_ ?_ GE233.out) | exact HB.out)))); (case aL => have := LMc42.out; omega); intro v239 w50 ho hb hg hat; rw [← Ny238.out] at ho; have n0_ := aM_ (Kd.R_over' (by exact (kM_ (kF_ (p := ⟨gb233, 2, none⟩) (kF_ (p := ⟨gb233, 1, none⟩) (kF_ (p := ⟨gb233, 0, none⟩) (kT_ HO_3.out BK233.out (by decide)) (fun _ hk => hk.2) (.int .i64 (-1))) (fun _ hk => hk.2) (.int .i64 (-1))) (fun _ hk => hk.2) (.bool t232)) (fun _ h_ => h_.1))) (Kd.R_typed (by exact (kM_ (kF_ (p := ⟨gb233, 2, none⟩) (kF_ (p := ⟨gb233, 1, none⟩) (kF_ (p := ⟨gb233, 0, none⟩) (kM_ HO_231000.out (fun k_ hk => (⟨hk, hk.2⟩ : _ ∧ k_ ≠ gb233))) (fun _ hk => hk.2) (.int .i64 (-1))) (fun _ hk => hk.2) (.int .i64 (-1))) (fun _ hk => hk.2) (.bool t232)) (fun _ h_ => h_.1)))) (by decide) hg); have n1_ := aM_ (blk_grown (g := gb218) (o := .cells #[.slice none 0 0] 36 (0, 0)) (by refine bR_ ?_ NB218_233.out _; refine bR_ ?_ NB218_233.out _; refine bR_ ?_ NB218_233.out _; exact BK218.out) hg (k6_ HO_231000.out BK218.out (by decide))); have n2_ := aM_ (blk_grown (g := gb230) (o := .cells #[u231000] 36 (0, 0)) (by refine bR_ ?_ NB230_233.out _; refine bR_ ?_ NB230_233.out _; refine bR_ ?_ NB230_233.out _; exact BK230.out) hg (k6_ HO_231000.out BK230.out (by decide))); have n3_ := aM_ (blk_grown (g := gb233) (o := .cells #[.int .i64 (-1), .int .i64 (-1), .bool t232] 76 (0, 0)) (by refine bP_ (cs := #[.int .i64 (-1), .int .i64 (-1), .bool false]) ?_ 2 _ rfl; refine bP_ (cs := #[.int .i64 (-1), .int .i64 0, .bool false]) ?_ 1 _ rfl; refine bP_ (cs := #[.int .i64 0, .int .i64 0, .bool false]) ?_ 0 _ rfl; exact BK233.out) hg (Kd.R_away HO_231000.out (fun _ hk => hk.2))); have n4_ := aM_ (hb); have n5_ := aM_ (ho); clear HO_3; clear BK218; clear BK230; clear BK233; clear HB; clear HO_231000; have HO_3 := n0_; have BK218 := n1_; have BK230 := n2_; have BK233 := n3_; have HB := n4_; have HO240 := n5_; clear n0_ n1_ n2_ n3_ n4_ n5_; clear ho hb hg hat; obtain ⟨Ao51, co51, eo51⟩ := kS_ HO240.out; subst eo51; have hcz52_0 : w50.cell? ⟨gb230, 0, none⟩ = some (u231000) := (bC_ BK230.out 0).trans rfl; have hfz52_0 := bF_ BK230.out 0))
          go_roundg k2
          case measure => have := HK1.out; have := HK2.out; omega
          case rel => exact ⟨(wrap64 (x7_2 + 1)), (y238), (.slice Ao51 y238.length co51), (by rfl), H', ⟨by have := HK1.out; have := HK2.out; omega⟩, ⟨by exact kM_ (kF_ (p := ⟨gb230, 0, none⟩) (kT_ HO_3.out BK230.out (by decide)) (fun _ hk => hk.2) (.slice Ao51 y238.length co51)) (fun _ hk => trivial)⟩, ⟨by exact kM_ (kF_ (p := ⟨gb230, 0, none⟩) (kT_ HO240.out BK230.out (by decide)) (fun _ hk => hk.2) (.slice Ao51 y238.length co51)) (fun _ hk => trivial)⟩, ⟨by refine bR_ ?_ NB218_230.out _; exact BK218.out⟩, ⟨by refine bP_ (cs := #[u231000]) ?_ 0 _ rfl; exact BK230.out⟩, ⟨by repeat (first | (with_reducible first | exact HB.out | apply bA_ | apply bN_ | apply bD_ | refine bS_ ?_ GE218.out | refine bS_ ?_ GE230.out | refine bS_ ?_ GE233.out) | exact HB.out)⟩⟩
         ·
          rw [if_neg c42] at H
          exact absurd H (by simp)
       ·
        rw [if_neg c21] at H
        exact absurd H (by simp)
      ·
       rw [if_neg c20] at H
       have c20b0 := decide_eq_false c20
       clear c20
       obtain rfl := Option.some.inj H
       obtain ⟨Ao53, co53, eo53⟩ := kS_ HO_3.out
       subst eo53
       have hnb54 := NB230_218.out
       have hnc54 := NB218_230.out
       have hcz55_0 : wr.cell? ⟨gb230, 0, none⟩ = some (u231000) := (bC_ BK230.out 0).trans rfl
       have hfz55_0 := bF_ BK230.out 0
       obtain ⟨Ao56, co56, eo56⟩ := kS_ HO_231000.out
       subst eo56
       have hcz57_0 : wr.cell? ⟨gb218, 0, none⟩ = some (.slice none 0 0) := (bC_ BK218.out 0).trans rfl
       have hfz57_0 := bF_ BK218.out 0
       go_wp2
       refine bodyPost_ret (results_cell_row rfl _ _ gb218 36 #[.slice Ao56 x231000_2.length co56] (0, 0) _ rfl (by refine bP_ (cs := #[.slice none 0 0]) ?_ 0 _ rfl; exact BK218.out) Tryz.underlying36 rfl (by kernel_rfl)) rfl ?_
       exact ⟨_, by rfl, by exact kM_ (kF_ (p := ⟨gb218, 0, none⟩) (kT_ HO_231000.out BK218.out (by decide)) (fun _ hk => hk.2) (.slice Ao56 x231000_2.length co56)) (fun _ hk => trivial), by repeat (first | (with_reducible first | exact HB.out | apply bA_ | apply bN_ | apply bD_ | refine bS_ ?_ GE218.out | refine bS_ ?_ GE230.out) | exact HB.out)⟩
def spec_l4Open.l0 : Nat → List ByteArray → Int → List (S60) → Option ((List (S76)) × Bool)
 | 0, _, _, _ => none
 | k + 1, x4, x5, x246000 => if x5 < (x246000.length : Int) then (if 0 ≤ x5 then (if (rd_T60 x246000 x5).f2 = true then ((spec_l4Prefix.f k x246000 x5).bind fun t252 => (if x4.length < 8796093022208 then (spec_l4Open.l0 k (x4 ++ [t252]) (wrap64 (x5 + 1)) x246000) else (none))) else (spec_l4Open.l0 k x4 (wrap64 (x5 + 1)) x246000)) else (none)) else ((spec_l2Set.f k x4).bind fun bt256 => (if bt256.2 = true then ((spec_l2Of.f k bt256.1).bind fun t260 => ((spec_l4Press.f k t260).bind fun t264 => ((spec_l4Same.f k t264 x246000).bind fun t267 => (if t267 = true then (some (t260, true)) else (some (([] : List (S76)), false)))))) else (some (([] : List (S76)), false))))
def spec_l4Open.f (k : Nat) (l0_0 : List (S60)) : Option ((List (S76)) × Bool) := (spec_l1In.f (l0_0.length : Int) 1 81).bind fun t250 => (if t250 = true then (spec_l4Open.l0 k (([] : List ByteArray)) 0 l0_0) else (some (([] : List (S76)), false)))
theorem spec_l4Open.mono_l : ∀ k, (∀ y0 y1 y2, LeO (spec_l4Open.l0 k y0 y1 y2) (spec_l4Open.l0 (k + 1) y0 y1 y2))
 | 0 => fun _ _ _ r h => by simp [spec_l4Open.l0] at h
 | k + 1 => by
  have ih0 := spec_l4Open.mono_l k
  ·
   intro y0 y1 y2
   unfold spec_l4Open.l0
   repeat' with_reducible first | exact ih0 _ _ _ | exact spec_l2Of.mono _ _ | exact spec_l2Set.mono _ _ | exact spec_l4Prefix.mono _ _ _ | exact spec_l4Press.mono _ _ | exact spec_l4Same.mono _ _ _ | exact l3_ _ | exact l0_ _ | refine l2_ ?_ ?_ | refine l1_ ?_ (fun _ => ?_)
theorem spec_l4Open.mono : ∀ a0 k, LeO (spec_l4Open.f k a0) (spec_l4Open.f (k + 1) a0) := by
 intro a0 k
 have ih0 := spec_l4Open.mono_l k
 unfold spec_l4Open.f
 repeat' with_reducible first | exact ih0 _ _ _ | exact spec_l2Of.mono _ _ | exact spec_l2Set.mono _ _ | exact spec_l4Prefix.mono _ _ _ | exact spec_l4Press.mono _ _ | exact spec_l4Same.mono _ _ _ | exact l3_ _ | exact l0_ _ | refine l2_ ?_ ?_ | refine l1_ ?_ (fun _ => ?_)
theorem spec_l4Open.calls (k : Nat) (A0_0 : Option Addr) (c0_0 : Nat) (l0_0 : List (S60)) (r1 : List (S76)) (r2 : Bool) (w : World) (hr0_0 : Kd.C k60 w A0_0 l0_0.length l0_0) (hc0_0 : l0_0.length ≤ c0_0) (h : spec_l4Open.f k l0_0 = some (r1, r2)) :
  Calls Tryz.prog 27 #[.agg #[.slice A0_0 l0_0.length c0_0]] w fun e w' => ∃ v0_ : Value, e = .returned (.tuple #[.agg #[v0_], .bool r2]) ∧ Kd.R k76 76 w' w.heap.size (fun _ => True) v0_ r1 ∧ Below w.heap.size w w' := by
 have hu30 := Tryz.underlying30
 have hu36 := Tryz.underlying36
 have HR0_0 := aM_ hr0_0
 have HC0_0 := aM_ hc0_0
 clear hr0_0 hc0_0
 have HB := aM_ (Below.refl w.heap.size w)
 have H : ((spec_l1In.f (l0_0.length : Int) 1 81).bind fun t250 => (if t250 = true then (spec_l4Open.l0 k (([] : List ByteArray)) 0 l0_0) else (some (([] : List (S76)), false)))) = some (r1, r2) := h
 clear h
 obtain ⟨y247, hy247⟩ : ∃ y_ : List ByteArray, y_ = (([] : List ByteArray)) := ⟨_, rfl⟩
 replace H : ((spec_l1In.f (l0_0.length : Int) 1 81).bind fun t250 => (if t250 = true then (spec_l4Open.l0 k y247 0 l0_0) else (some (([] : List (S76)), false)))) = some (r1, r2) := by first | (rw [hy247]; with_reducible exact H) | (have H2_ := (Option.bind_some _ _).symm.trans H; rw [hy247]; with_reducible exact H2_) | (have H2_ := (Option.bind_some _ _).symm.trans H; with_reducible exact H2_) | with_reducible exact H | (rw [hy247]; exact H) | exact H
 have Ny247 := aM_ hy247
 clear hy247
 replace H := oB_.mp H
 obtain ⟨t250, A20, H⟩ := H
 try dsimp only at H
 have A2 := aM_ A20
 clear A20
 by_cases c3 : t250 = true
 ·
  subst c3
  rw [if_pos rfl] at H
  have H' := aM_ H
  clear H
  go_enter Tryz.func27, Tryz.ntmps27
  go_wp2_with (first | ((with_reducible refine gD_ (N := 1) rfl ?_); refine bE_ ?hg (N := 1) ?hd (cs := #[.slice A0_0 l0_0.length c0_0]) (t := 30) ?hr ?_; (case hd => rfl); (case hg => rfl); (case hr => (go_simp; done)); intro gb245 hg w4 hbox hb; have BK245 := aM_ (hbox); have GW245 := aM_ ((by rw [hg]; exact (bZ_ HB.out) : w.heap.size ≤ gb245)); have GE245 := GW245; replace HB := aM_ (bT_ HB.out hb); clear hb hbox hg) | ((with_reducible refine gD_ (N := 2) rfl ?_); refine bE_ ?hg (N := 2) ?hd (cs := #[.slice none 0 0]) (t := 36) ?hr ?_; (case hd => rfl); (case hg => rfl); (case hr => (go_simp; done)); intro gb246 hg w5 hbox hb; have BK246 := aM_ (hbox); have GW246 := aM_ ((by rw [hg]; exact (bZ_ HB.out) : w.heap.size ≤ gb246)); have GE246 := GW246; replace HB := aM_ (bT_ HB.out hb); have NB245_246 := aM_ ((by rw [hg]; exact Nat.ne_of_lt (bL_ BK245.out) : gb245 ≠ gb246)); have NB246_245 := aM_ NB245_246.out.symm; replace BK245 := aM_ (bB_ BK245.out hb); clear hb hbox hg) | ((with_reducible refine gD_ (N := 9) rfl ?_); refine Kd.R_lit Kd.string _ 9 ?hg (N := 9) ?hd (xs := ([] : List ByteArray)) (inner := []) (ok := fun _ => True) (okp := fun _ => True) ?hr ?hp (fun _ hk => hk) trivial (Below.refl _ _) (Nat.le_refl _) (by simp) ?_; (case hd => rfl); (case hg => rfl); (case hr => (go_simp; done)); (case hp => exact (Reps.none _ _)); intro v248 w6 ho7 hb hg_ hnew_; clear hg_ hnew_; (rw [← Ny247.out] at ho7); have HO249 := aM_ (k5_ ho7 (bZ_ HB.out)); replace BK245 := aM_ (bB_ BK245.out hb); replace BK246 := aM_ (bB_ BK246.out hb); replace HB := aM_ (bT_ HB.out hb); clear hb ho7; have hnb8 := NB245_246.out; have hnc8 := NB246_245.out; have hcz9_0 : w6.cell? ⟨gb245, 0, none⟩ = some (.slice A0_0 l0_0.length c0_0) := (bC_ BK245.out 0).trans rfl; have hfz9_0 := bF_ BK245.out 0) | ((with_reducible refine gC_ (f := 54) rfl ?_); refine goesL_ (some 13) rfl rfl Tryz.func54 (by kernel_rfl) rfl #[.int .i64 (l0_0.length : Int), .int .i64 1, .int .i64 81] rfl (by (try simp only [sD_, sE_, sF_]); rfl) ?_; (with_reducible refine (spec_l1In.calls (l0_0.length : Int) 1 81 true _ A2.out).mono ?_); rintro e w' ⟨rfl, ⟨nd, rfl⟩⟩; refine ⟨_, rfl, ?_⟩))
  go_loopg [4, 5] k (fun kq v4 v5 w' => ∃ (x4_1 : List ByteArray) (x5_1 : Int), v5 = .int .i64 x5_1 ∧ Aside0 (spec_l4Open.l0 kq x4_1 x5_1 l0_0 = some (r1, r2)) ∧ Aside0 (kq ≤ k) ∧ Aside0 (Kd.R Kd.string 9 w' w.heap.size (fun _ => True) v4 x4_1) ∧ Aside0 (w'.heap[gb245]? = some (.cells #[(.slice A0_0 l0_0.length c0_0)] 30 (0, 0))) ∧ Aside0 (w'.heap[gb246]? = some (.cells #[(.slice none 0 0)] 36 (0, 0))) ∧ Aside0 (Below w.heap.size w w'))
  case atStart => exact ⟨(y247), (0), (by rfl), H', ⟨Nat.le_refl _⟩, ⟨by (with_reducible repeat (first | apply k1_ | apply k2_ | apply k3_)); exact HO249.out⟩, ⟨by (with_reducible repeat (first | refine b2_ ?_ _ | refine b1_ ?_ | refine b3_ ?_ _)); exact BK245.out⟩, ⟨by (with_reducible repeat (first | refine b2_ ?_ _ | refine b1_ ?_ | refine b3_ ?_ _)); exact BK246.out⟩, ⟨by repeat (first | (with_reducible first | exact HB.out | apply bA_ | apply bN_ | apply bD_ | refine bS_ ?_ GE245.out | refine bS_ ?_ GE246.out) | exact HB.out)⟩⟩
  case round =>
   clear H'
   try clear p2
   try clear hcz9_0
   try clear hfz9_0
   obtain ⟨x4_1, x5_1, rfl, HA, HK1, HO_4, BK245, BK246, HB⟩ := hrel
   cases gk with
   | zero => exact absurd HA.out (by simp [spec_l4Open.l0])
   | succ k1 =>
    have H := HA.out
    clear HA
    simp only [spec_l4Open.l0] at H
    by_cases c10 : x5_1 < (l0_0.length : Int)
    ·
     rw [if_pos c10] at H
     have c10b0 := decide_eq_true c10
     clear c10
     by_cases c11 : 0 ≤ x5_1
     ·
      rw [if_pos c11] at H
      have c11b0 := decide_eq_true c11
      clear c11
      obtain ⟨bq12, hbq12⟩ : ∃ b_ : Bool, b_ = ((rd_T60 l0_0 x5_1).f2) := ⟨_, rfl⟩
      replace H : (if bq12 = true then ((spec_l4Prefix.f k1 l0_0 x5_1).bind fun t252 => (if x4_1.length < 8796093022208 then (spec_l4Open.l0 k1 (x4_1 ++ [t252]) (wrap64 (x5_1 + 1)) l0_0) else (none))) else (spec_l4Open.l0 k1 x4_1 (wrap64 (x5_1 + 1)) l0_0)) = some (r1, r2) := by rw [← hbq12] at H; exact H
      have Nbq12 := aM_ hbq12
      clear hbq12
      by_cases c13 : bq12 = true
      ·
       subst c13
       rw [if_pos rfl] at H
       replace H := oB_.mp H
       obtain ⟨t252, A140, H⟩ := H
       try dsimp only at H
       have A14 := aM_ A140
       clear A140
       by_cases c15 : x4_1.length < 8796093022208
       ·
        rw [if_pos c15] at H
        have LMc15 := aM_ c15
        clear c15
        obtain ⟨y253, hy253⟩ : ∃ y_ : List ByteArray, y_ = (x4_1 ++ [t252]) := ⟨_, rfl⟩
        replace H : (spec_l4Open.l0 k1 y253 (wrap64 (x5_1 + 1)) l0_0) = some (r1, r2) := by first | (rw [hy253]; with_reducible exact H) | (have H2_ := (Option.bind_some _ _).symm.trans H; rw [hy253]; with_reducible exact H2_) | (have H2_ := (Option.bind_some _ _).symm.trans H; with_reducible exact H2_) | with_reducible exact H | (rw [hy253]; exact H) | exact H
        have Ny253 := aM_ hy253
        clear hy253
        have H' := aM_ H
        clear H
        have hnb16 := NB245_246.out
        have hnc16 := NB246_245.out
        have hcz17_0 : wr.cell? ⟨gb245, 0, none⟩ = some (.slice A0_0 l0_0.length c0_0) := (bC_ BK245.out 0).trans rfl
        have hfz17_0 := bF_ BK245.out 0
        have p251 : 0 ≤ (x5_1 : Int) := of_decide_eq_true ‹_›
        have q251 : x5_1 < (l0_0.length : Int) := of_decide_eq_true ‹_›
        obtain ⟨ad251, e251, hx251_0, hx251_1, hx251_2⟩ := at_T60 HR0_0.out x5_1 p251 q251
        (try rw [← Nbq12.out] at hx251_2)
        cases e251
        replace hx251_0 := (HB.out.cell (wB_ w _ hx251_0)).trans hx251_0
        replace hx251_1 := (HB.out.cell (wB_ w _ hx251_1)).trans hx251_1
        replace hx251_2 := (HB.out.cell (wB_ w _ hx251_2)).trans hx251_2
        replace p251 := eq_true p251
        replace q251 := eq_true q251
        go_wp2_with (first | ((with_reducible refine gC_ (f := 31) rfl ?_); refine goesL_ (some 32) rfl rfl Tryz.func31 (by kernel_rfl) rfl #[.agg #[.slice (some ad251) l0_0.length c0_0], .int .i64 x5_1] rfl (by (try simp only [sD_, sE_, sF_]); rfl) ?_; (with_reducible refine (spec_l4Prefix.calls k1 _ _ l0_0 x5_1 t252 _ ?side1 ?side2 A14.out).mono ?_); (case side1 => repeat (first | exact (k4_ HR0_0.out HB.out) | (with_reducible refine Kd.C_alloc ?_ _) | (with_reducible refine Kd.C_drewN ?_ _) | (with_reducible refine Kd.C_drew ?_))); (case side2 => exact HC0_0.out); rintro e w18 ⟨rfl, hb⟩; refine ⟨_, rfl, ?_⟩; replace HO_4 := aM_ (kB_ HO_4.out hb); replace BK245 := aM_ (bB_ BK245.out hb); replace BK246 := aM_ (bB_ BK246.out hb); replace HB := aM_ (bT_ HB.out hb); (try clear hb)) | ((with_reducible refine gate_builtin (b := .append) (xs := #[.tmp 29, .tmp 33]) rfl ?_); at_builtin; refine Kd.R_append Kd.string (w0 := w) w.heap.size rfl (.tmp 29) (.tmp 33) 49 9 (.string ⟨#[]⟩) 16 rfl Tryz.underlying49 info9 rfl (by decide) (by omega) u4 x4_1 t252 [.string t252] (fun _ => True) (fun _ => False) rfl rfl ?aP (fun _ hk => hk.elim) ?aF ?aO ?aB ?aS ?aL ?_; (case aP => exact rfl); (case aB => exact HB.out); (case aF => exact (fun _ _ => trivial)); (case aO => exact HO_4.out); (case aS => exact (bZ_ HB.out)); (case aL => have := LMc15.out; omega); intro v254 w19 ho hb hg hat; rw [← Ny253.out] at ho; have n0_ := aM_ (blk_grown (g := gb245) (o := .cells #[.slice (some ad251) l0_0.length c0_0] 30 (0, 0)) BK245.out hg (k6_ HO_4.out BK245.out (by decide))); have n1_ := aM_ (blk_grown (g := gb246) (o := .cells #[.slice none 0 0] 36 (0, 0)) BK246.out hg (k6_ HO_4.out BK246.out (by decide))); have n2_ := aM_ (hb); have n3_ := aM_ (ho); clear BK245; clear BK246; clear HB; clear HO_4; have BK245 := n0_; have BK246 := n1_; have HB := n2_; have HO255 := n3_; clear n0_ n1_ n2_ n3_; clear ho hb hg hat))
        go_roundg k1
        case measure => have := HK1.out; omega
        case rel => exact ⟨(y253), (wrap64 (x5_1 + 1)), (by rfl), H', ⟨by have := HK1.out; omega⟩, ⟨HO255.out⟩, ⟨BK245.out⟩, ⟨BK246.out⟩, ⟨HB.out⟩⟩
       ·
        rw [if_neg c15] at H
        exact absurd H (by simp)
      ·
       replace c13 := Bool.eq_false_iff.mpr c13
       subst c13
       replace H : (spec_l4Open.l0 k1 x4_1 (wrap64 (x5_1 + 1)) l0_0) = some (r1, r2) := by rw [if_neg (show ¬ (false = true) by decide)] at H; exact H
       have H' := aM_ H
       clear H
       have hnb20 := NB245_246.out
       have hnc20 := NB246_245.out
       have hcz21_0 : wr.cell? ⟨gb245, 0, none⟩ = some (.slice A0_0 l0_0.length c0_0) := (bC_ BK245.out 0).trans rfl
       have hfz21_0 := bF_ BK245.out 0
       have p251 : 0 ≤ (x5_1 : Int) := of_decide_eq_true ‹_›
       have q251 : x5_1 < (l0_0.length : Int) := of_decide_eq_true ‹_›
       obtain ⟨ad251, e251, hx251_0, hx251_1, hx251_2⟩ := at_T60 HR0_0.out x5_1 p251 q251
       (try rw [← Nbq12.out] at hx251_2)
       cases e251
       replace hx251_0 := (HB.out.cell (wB_ w _ hx251_0)).trans hx251_0
       replace hx251_1 := (HB.out.cell (wB_ w _ hx251_1)).trans hx251_1
       replace hx251_2 := (HB.out.cell (wB_ w _ hx251_2)).trans hx251_2
       replace p251 := eq_true p251
       replace q251 := eq_true q251
       go_wp2
       go_roundg k1
       case measure => have := HK1.out; omega
       case rel => exact ⟨(x4_1), (wrap64 (x5_1 + 1)), (by rfl), H', ⟨by have := HK1.out; omega⟩, ⟨HO_4.out⟩, ⟨BK245.out⟩, ⟨BK246.out⟩, ⟨HB.out⟩⟩
     ·
      rw [if_neg c11] at H
      exact absurd H (by simp)
    ·
     rw [if_neg c10] at H
     have c10b0 := decide_eq_false c10
     clear c10
     replace H := oB_.mp H
     obtain ⟨⟨t256, t257⟩, A220, H⟩ := H
     try dsimp only at H
     have A22 := aM_ A220
     clear A220
     by_cases c23 : t257 = true
     ·
      subst c23
      rw [if_pos rfl] at H
      replace H := oB_.mp H
      obtain ⟨t260, A240, H⟩ := H
      try dsimp only at H
      have A24 := aM_ A240
      clear A240
      replace H := oB_.mp H
      obtain ⟨t264, A250, H⟩ := H
      try dsimp only at H
      have A25 := aM_ A250
      clear A250
      replace H := oB_.mp H
      obtain ⟨t267, A260, H⟩ := H
      try dsimp only at H
      have A26 := aM_ A260
      clear A260
      by_cases c27 : t267 = true
      ·
       subst c27
       rw [if_pos rfl] at H
       simp only [Option.some.injEq, Prod.mk.injEq] at H
       obtain ⟨rfl, rfl⟩ := H
       have hnb28 := NB245_246.out
       have hnc28 := NB246_245.out
       have hcz29_0 : wr.cell? ⟨gb245, 0, none⟩ = some (.slice A0_0 l0_0.length c0_0) := (bC_ BK245.out 0).trans rfl
       have hfz29_0 := bF_ BK245.out 0
       obtain ⟨Ao30, co30, eo30⟩ := kS_ HO_4.out
       subst eo30
       try go_wp2_with (first | ((with_reducible refine gC_ (f := 55) rfl ?_); refine goesL_ (some 37) rfl rfl Tryz.func55 (by kernel_rfl) rfl #[.slice Ao30 x4_1.length co30] rfl (by (try simp only [sD_, sE_, sF_]); rfl) ?_; (with_reducible refine (spec_l2Set.calls k1 _ _ x4_1 t256 true _ ?side1 ?side2 A22.out).mono ?_); (case side1 => repeat (first | exact (kR_ HO_4.out).2.2 | (with_reducible refine Kd.C_alloc ?_ _) | (with_reducible refine Kd.C_drewN ?_ _) | (with_reducible refine Kd.C_drew ?_))); (case side2 => exact (kR_ HO_4.out).2.1); rintro e w31 ⟨v258, rfl, ho0, hb⟩; refine ⟨_, rfl, ?_⟩; have HO259 := aM_ (k5_ (Kd.R_new' ho0 (Kd.R_lt HO_4.out)) (bZ_ HB.out)); replace HO_4 := aM_ (Kd.R_elder' HO_4.out (Kd.R_base ho0) hb); replace BK245 := aM_ (bB_ BK245.out hb); replace BK246 := aM_ (bB_ BK246.out hb); replace HB := aM_ (bT_ HB.out hb); (try clear hb); (try clear ho0); obtain ⟨Ao32, co32, eo32⟩ := kS_ HO259.out; subst eo32) | ((with_reducible refine gC_ (f := 56) rfl ?_); refine goesL_ (some 44) rfl rfl Tryz.func56 (by kernel_rfl) rfl #[.slice Ao32 t256.length co32] rfl (by (try simp only [sD_, sE_, sF_]); rfl) ?_; (with_reducible refine (spec_l2Of.calls k1 _ _ t256 t260 _ ?side1 ?side2 A24.out).mono ?_); (case side1 => repeat (first | exact (kR_ HO259.out).2.2 | (with_reducible refine Kd.C_alloc ?_ _) | (with_reducible refine Kd.C_drewN ?_ _) | (with_reducible refine Kd.C_drew ?_))); (case side2 => exact (kR_ HO259.out).2.1); rintro e w33 ⟨v261, rfl, ho0, hb⟩; refine ⟨_, rfl, ?_⟩; replace HO_4 := aM_ (kB_ HO_4.out hb); replace HO259 := aM_ (kB_ HO259.out hb); have HO262 := aM_ (k5_ ho0 (bZ_ HB.out)); replace BK245 := aM_ (bB_ BK245.out hb); replace BK246 := aM_ (bB_ BK246.out hb); replace HB := aM_ (bT_ HB.out hb); (try clear hb); (try clear ho0)) | ((with_reducible refine gD_ (N := 8) rfl ?_); refine bE_ ?hg (N := 8) ?hd (cs := #[.slice none 0 0]) (t := 36) ?hr ?_; (case hd => rfl); (case hg => rfl); (case hr => (go_simp; done)); intro gb263 hg w34 hbox hb; replace HO_4 := aM_ (kB_ HO_4.out hb); replace HO259 := aM_ (kB_ HO259.out hb); replace HO262 := aM_ (kB_ HO262.out hb); have BK263 := aM_ (hbox); have GW263 := aM_ ((by rw [hg]; exact (bZ_ HB.out) : w.heap.size ≤ gb263)); have GE263 := GW263; replace HB := aM_ (bT_ HB.out hb); have NB245_263 := aM_ ((by rw [hg]; exact Nat.ne_of_lt (bL_ BK245.out) : gb245 ≠ gb263)); have NB263_245 := aM_ NB245_263.out.symm; replace BK245 := aM_ (bB_ BK245.out hb); have NB246_263 := aM_ ((by rw [hg]; exact Nat.ne_of_lt (bL_ BK246.out) : gb246 ≠ gb263)); have NB263_246 := aM_ NB246_263.out.symm; replace BK246 := aM_ (bB_ BK246.out hb); clear hb hbox hg; obtain ⟨Ao35, co35, eo35⟩ := kS_ HO262.out; subst eo35; have hnb36 := NB263_245.out; have hnc36 := NB245_263.out; have hnb37 := NB263_246.out; have hnc37 := NB246_263.out; have hcz38_0 : w34.cell? ⟨gb263, 0, none⟩ = some (.slice none 0 0) := (bC_ BK263.out 0).trans rfl; have hfz38_0 := bF_ BK263.out 0))
       have n0_ : Aside0 (Kd.R Kd.string 9 (w34.setCell ⟨gb263, 0, none⟩ (.slice Ao35 t260.length co35)) w.heap.size (fun k_ => some k_ ≠ (.slice Ao32 t256.length co32 : Value).ownBlock) (.slice Ao30 x4_1.length co30) x4_1) := ⟨by exact kM_ (kF_ (p := ⟨gb263, 0, none⟩) (kT_ HO_4.out BK263.out (by decide)) (fun _ hk => hk.2) (.slice Ao35 t260.length co35)) (fun _ hk => hk.1.2)⟩
       have n1_ : Aside0 (Kd.R Kd.string 9 (w34.setCell ⟨gb263, 0, none⟩ (.slice Ao35 t260.length co35)) w.heap.size (fun k_ => some k_ ≠ (.slice Ao30 x4_1.length co30 : Value).ownBlock) (.slice Ao32 t256.length co32) t256) := ⟨by exact kM_ (kF_ (p := ⟨gb263, 0, none⟩) (kT_ HO259.out BK263.out (by decide)) (fun _ hk => hk.2) (.slice Ao35 t260.length co35)) (fun _ hk => hk.1.2)⟩
       have n2_ : Aside0 (Kd.R k76 76 (w34.setCell ⟨gb263, 0, none⟩ (.slice Ao35 t260.length co35)) w.heap.size (fun _ => True) (.slice Ao35 t260.length co35) t260) := ⟨by exact kM_ (kF_ (p := ⟨gb263, 0, none⟩) (kT_ HO262.out BK263.out (by decide)) (fun _ hk => hk.2) (.slice Ao35 t260.length co35)) (fun _ hk => trivial)⟩
       have n3_ : Aside0 ((w34.setCell ⟨gb263, 0, none⟩ (.slice Ao35 t260.length co35)).heap[gb245]? = some (.cells #[.slice A0_0 l0_0.length c0_0] 30 (0, 0))) := ⟨by refine bR_ ?_ NB245_263.out _; exact BK245.out⟩
       have n4_ : Aside0 ((w34.setCell ⟨gb263, 0, none⟩ (.slice Ao35 t260.length co35)).heap[gb246]? = some (.cells #[.slice none 0 0] 36 (0, 0))) := ⟨by refine bR_ ?_ NB246_263.out _; exact BK246.out⟩
       have n5_ : Aside0 ((w34.setCell ⟨gb263, 0, none⟩ (.slice Ao35 t260.length co35)).heap[gb263]? = some (.cells #[.slice Ao35 t260.length co35] 36 (0, 0))) := ⟨by refine bP_ (cs := #[.slice none 0 0]) ?_ 0 _ rfl; exact BK263.out⟩
       have n6_ : Aside0 (Below w.heap.size w (w34.setCell ⟨gb263, 0, none⟩ (.slice Ao35 t260.length co35))) := ⟨by repeat (first | (with_reducible first | exact HB.out | apply bA_ | apply bN_ | apply bD_ | refine bS_ ?_ GE245.out | refine bS_ ?_ GE246.out | refine bS_ ?_ GE263.out) | exact HB.out)⟩
       (try clear HO_4)
       (try clear HO259)
       (try clear HO262)
       (try clear BK245)
       (try clear BK246)
       (try clear BK263)
       (try clear HB)
       generalize (w34.setCell ⟨gb263, 0, none⟩ (.slice Ao35 t260.length co35)) = w39 at n0_ n1_ n2_ n3_ n4_ n5_ n6_ ⊢
       have HO_4 := n0_
       have HO259 := n1_
       have HO262 := n2_
       have BK245 := n3_
       have BK246 := n4_
       have BK263 := n5_
       have HB := n6_
       clear n0_ n1_ n2_ n3_ n4_ n5_ n6_
       have n0_ := aM_ (k3_ HO_4.out)
       have n1_ := aM_ (k3_ HO259.out)
       have n2_ := aM_ (k3_ HO262.out)
       have n3_ := aM_ (b1_ BK245.out)
       have n4_ := aM_ (b1_ BK246.out)
       have n5_ := aM_ (b1_ BK263.out)
       have n6_ := aM_ (bD_ HB.out)
       clear HO_4
       clear HO259
       clear HO262
       clear BK245
       clear BK246
       clear BK263
       clear HB
       have HO_4 := n0_
       have HO259 := n1_
       have HO262 := n2_
       have BK245 := n3_
       have BK246 := n4_
       have BK263 := n5_
       have HB := n6_
       clear n0_ n1_ n2_ n3_ n4_ n5_ n6_
       refine start_ (n := 5) (S := fun w' => w'.cell? ⟨gb263, 0, none⟩ = some (.slice Ao35 t260.length co35) ∧ w'.cell? ⟨gb245, 0, none⟩ = some (.slice A0_0 l0_0.length c0_0)) (ds := []) #[fy, fy, fy, fy, fy] (by kernel_rfl) rfl rfl ⟨(bC_ BK263.out 0).trans rfl, (bC_ BK245.out 0).trans rfl⟩ (fun hHeld => ?_)
       generalize w39.drew = w40 at HO_4 HO259 HO262 BK245 BK246 BK263 HB hHeld ⊢
       refine take_ (i := 0) (N := some 45) (v := ?_) (a' := ?_) #[ty, fy, fy, fy, fy] rfl rfl (by kernel_rfl) (fun _ _ _ h => h) (Or.inl ⟨by rfl, ?_⟩) hHeld ?_ ?_; rotate_left; (rintro w' ⟨s0, s1⟩; go_simp; with_reducible rfl); rotate_left; (simp only [Act.put, sA_, sB_, sC_, i6_, i3_]; rfl)
       refine take_ (i := 2) (N := some 47) (v := ?_) (a' := ?_) #[ty, fy, ty, fy, fy] rfl rfl (by kernel_rfl) (fun _ _ _ h => h) (Or.inl ⟨by rfl, ?_⟩) hHeld ?_ ?_; rotate_left; (rintro w' ⟨s0, s1⟩; go_simp; with_reducible rfl); rotate_left; (simp only [Act.put, sA_, sB_, sC_, i6_, i3_]; rfl)
       refine one_ (i := 1) (N := some 46) #[ty, ty, ty, fy, fy] rfl rfl (by kernel_rfl) (by decide) (fun K hK => ?_)
       refine goes_ Tryz.func47 (by kernel_rfl) rfl #[.agg #[.slice Ao35 t260.length co35]] (by rfl) rfl rfl (by (try simp only [sD_, sE_, sF_]); rfl) ?_
       with_reducible refine (spec_l4Press.calls k1 _ _ t260 t264 _ ?side1 ?side2 A25.out).mono ?_
       (case side1 => repeat (first | exact (kR_ HO262.out).2.2 | (with_reducible refine Kd.C_alloc ?_ _) | (with_reducible refine Kd.C_drewN ?_ _) | (with_reducible refine Kd.C_drew ?_)))
       (case side2 => exact (kR_ HO262.out).2.1)
       rintro e w41 ⟨v265, rfl, ho0, hb⟩
       refine ⟨_, rfl, ?_⟩
       have n0_ := aM_ (kB_ HO_4.out hb)
       have n1_ := aM_ (kB_ HO259.out hb)
       have n2_ := aM_ (kB_ HO262.out hb)
       have n3_ := aM_ (k5_ ho0 (bZ_ HB.out))
       have n4_ := aM_ (bB_ BK245.out hb)
       have n5_ := aM_ (bB_ BK246.out hb)
       have n6_ := aM_ (bB_ BK263.out hb)
       have n7_ := aM_ (bT_ HB.out hb)
       clear HO_4
       clear HO259
       clear HO262
       clear BK245
       clear BK246
       clear BK263
       clear HB
       have HO_4 := n0_
       have HO259 := n1_
       have HO262 := n2_
       have HO266 := n3_
       have BK245 := n4_
       have BK246 := n5_
       have BK263 := n6_
       have HB := n7_
       clear n0_ n1_ n2_ n3_ n4_ n5_ n6_ n7_
       (try clear hb)
       (try clear ho0)
       obtain ⟨Ao42, co42, eo42⟩ := kS_ HO266.out
       (subst eo42)
       refine hK.out _ _ ⟨(bC_ BK263.out 0).trans rfl, (bC_ BK245.out 0).trans rfl⟩ (fun hHeld => ?_)
       clear hK K
       refine norm_ (a' := ?_) ?_ ?_; rotate_left; (show Act.put _ (some 46) _ = _; simp only [Act.put, sA_, sB_, sC_, i6_, i3_]; rfl)
       refine one_ (i := 3) (N := some 48) #[ty, ty, ty, ty, fy] rfl rfl (by kernel_rfl) (by decide) (fun K hK => ?_)
       refine goes_ Tryz.func57 (by kernel_rfl) rfl #[.agg #[.slice Ao42 t264.length co42], .agg #[.slice A0_0 l0_0.length c0_0]] (by rfl) rfl rfl (by (try simp only [sD_, sE_, sF_]); rfl) ?_
       with_reducible refine (spec_l4Same.calls k1 _ _ t264 _ _ l0_0 true _ ?side1 ?side2 ?side3 ?side4 A26.out).mono ?_
       (case side1 => repeat (first | exact (kR_ HO266.out).2.2 | (with_reducible refine Kd.C_alloc ?_ _) | (with_reducible refine Kd.C_drewN ?_ _) | (with_reducible refine Kd.C_drew ?_)))
       (case side2 => exact (kR_ HO266.out).2.1)
       (case side3 => repeat (first | exact (k4_ HR0_0.out HB.out) | (with_reducible refine Kd.C_alloc ?_ _) | (with_reducible refine Kd.C_drewN ?_ _) | (with_reducible refine Kd.C_drew ?_)))
       (case side4 => exact HC0_0.out)
       rintro e w43 ⟨rfl, hb⟩
       refine ⟨_, rfl, ?_⟩
       have n0_ := aM_ (kB_ HO_4.out hb)
       have n1_ := aM_ (kB_ HO259.out hb)
       have n2_ := aM_ (kB_ HO262.out hb)
       have n3_ := aM_ (kB_ HO266.out hb)
       have n4_ := aM_ (bB_ BK245.out hb)
       have n5_ := aM_ (bB_ BK246.out hb)
       have n6_ := aM_ (bB_ BK263.out hb)
       have n7_ := aM_ (bT_ HB.out hb)
       clear HO_4
       clear HO259
       clear HO262
       clear HO266
       clear BK245
       clear BK246
       clear BK263
       clear HB
       have HO_4 := n0_
       have HO259 := n1_
       have HO262 := n2_
       have HO266 := n3_
       have BK245 := n4_
       have BK246 := n5_
       have BK263 := n6_
       have HB := n7_
       clear n0_ n1_ n2_ n3_ n4_ n5_ n6_ n7_
       (try clear hb)
       refine hK.out _ _ ⟨(bC_ BK263.out 0).trans rfl, (bC_ BK245.out 0).trans rfl⟩ (fun hHeld => ?_)
       clear hK K
       refine norm_ (a' := ?_) ?_ ?_; rotate_left; (show Act.put _ (some 48) _ = _; simp only [Act.put, sA_, sB_, sC_, i6_, i3_]; rfl)
       refine pure_ (i := 4) (N := some 49) (v := ?_) (a' := ?_) #[ty, ty, ty, ty, ty] rfl rfl (by kernel_rfl) (fun _ _ _ h => h) (Or.inl ⟨by rfl, ?_⟩) ?_ ?_; rotate_left; (intro w'; go_simp; with_reducible rfl); rotate_left; (simp only [Act.put, sA_, sB_, sC_, i6_, i3_]; rfl)
       refine done_ (by kernel_rfl) ?_
       have hcz44_0 : w43.cell? ⟨gb263, 0, none⟩ = some (.slice Ao35 t260.length co35) := (bC_ BK263.out 0).trans rfl
       have hfz44_0 := bF_ BK263.out 0
       have hcz45_0 : w43.cell? ⟨gb246, 0, none⟩ = some (.slice none 0 0) := (bC_ BK246.out 0).trans rfl
       have hfz45_0 := bF_ BK246.out 0
       try go_wp2
       refine bodyPost_ret (results_ct rfl _ _ gb246 36 #[.slice Ao35 t260.length co35] (0, 0) _ rfl (by refine bP_ (cs := #[.slice none 0 0]) ?_ 0 _ rfl; exact BK246.out) Tryz.underlying36 rfl (by kernel_rfl)) rfl ?_
       exact ⟨_, by rfl, by exact kM_ (kF_ (p := ⟨gb246, 0, none⟩) (kT_ HO262.out BK246.out (by decide)) (fun _ hk => hk.2) (.slice Ao35 t260.length co35)) (fun _ hk => trivial), by repeat (first | (with_reducible first | exact HB.out | apply bA_ | apply bN_ | apply bD_ | refine bS_ ?_ GE245.out | refine bS_ ?_ GE246.out | refine bS_ ?_ GE263.out) | exact HB.out)⟩
      ·
       replace c27 := Bool.eq_false_iff.mpr c27
       subst c27
       replace H : (some (([] : List (S76)), false)) = some (r1, r2) := by rw [if_neg (show ¬ (false = true) by decide)] at H; exact H
       simp only [Option.some.injEq, Prod.mk.injEq] at H
       obtain ⟨rfl, rfl⟩ := H
       have hnb46 := NB245_246.out
       have hnc46 := NB246_245.out
       have hcz47_0 : wr.cell? ⟨gb245, 0, none⟩ = some (.slice A0_0 l0_0.length c0_0) := (bC_ BK245.out 0).trans rfl
       have hfz47_0 := bF_ BK245.out 0
       obtain ⟨Ao48, co48, eo48⟩ := kS_ HO_4.out
       subst eo48
       try go_wp2_with (first | ((with_reducible refine gC_ (f := 55) rfl ?_); refine goesL_ (some 37) rfl rfl Tryz.func55 (by kernel_rfl) rfl #[.slice Ao48 x4_1.length co48] rfl (by (try simp only [sD_, sE_, sF_]); rfl) ?_; (with_reducible refine (spec_l2Set.calls k1 _ _ x4_1 t256 true _ ?side1 ?side2 A22.out).mono ?_); (case side1 => repeat (first | exact (kR_ HO_4.out).2.2 | (with_reducible refine Kd.C_alloc ?_ _) | (with_reducible refine Kd.C_drewN ?_ _) | (with_reducible refine Kd.C_drew ?_))); (case side2 => exact (kR_ HO_4.out).2.1); rintro e w49 ⟨v258, rfl, ho0, hb⟩; refine ⟨_, rfl, ?_⟩; have HO259 := aM_ (k5_ (Kd.R_new' ho0 (Kd.R_lt HO_4.out)) (bZ_ HB.out)); replace HO_4 := aM_ (Kd.R_elder' HO_4.out (Kd.R_base ho0) hb); replace BK245 := aM_ (bB_ BK245.out hb); replace BK246 := aM_ (bB_ BK246.out hb); replace HB := aM_ (bT_ HB.out hb); (try clear hb); (try clear ho0); obtain ⟨Ao50, co50, eo50⟩ := kS_ HO259.out; subst eo50) | ((with_reducible refine gC_ (f := 56) rfl ?_); refine goesL_ (some 44) rfl rfl Tryz.func56 (by kernel_rfl) rfl #[.slice Ao50 t256.length co50] rfl (by (try simp only [sD_, sE_, sF_]); rfl) ?_; (with_reducible refine (spec_l2Of.calls k1 _ _ t256 t260 _ ?side1 ?side2 A24.out).mono ?_); (case side1 => repeat (first | exact (kR_ HO259.out).2.2 | (with_reducible refine Kd.C_alloc ?_ _) | (with_reducible refine Kd.C_drewN ?_ _) | (with_reducible refine Kd.C_drew ?_))); (case side2 => exact (kR_ HO259.out).2.1); rintro e w51 ⟨v261, rfl, ho0, hb⟩; refine ⟨_, rfl, ?_⟩; replace HO_4 := aM_ (kB_ HO_4.out hb); replace HO259 := aM_ (kB_ HO259.out hb); have HO262 := aM_ (k5_ ho0 (bZ_ HB.out)); replace BK245 := aM_ (bB_ BK245.out hb); replace BK246 := aM_ (bB_ BK246.out hb); replace HB := aM_ (bT_ HB.out hb); (try clear hb); (try clear ho0)) | ((with_reducible refine gD_ (N := 8) rfl ?_); refine bE_ ?hg (N := 8) ?hd (cs := #[.slice none 0 0]) (t := 36) ?hr ?_; (case hd => rfl); (case hg => rfl); (case hr => (go_simp; done)); intro gb263 hg w52 hbox hb; replace HO_4 := aM_ (kB_ HO_4.out hb); replace HO259 := aM_ (kB_ HO259.out hb); replace HO262 := aM_ (kB_ HO262.out hb); have BK263 := aM_ (hbox); have GW263 := aM_ ((by rw [hg]; exact (bZ_ HB.out) : w.heap.size ≤ gb263)); have GE263 := GW263; replace HB := aM_ (bT_ HB.out hb); have NB245_263 := aM_ ((by rw [hg]; exact Nat.ne_of_lt (bL_ BK245.out) : gb245 ≠ gb263)); have NB263_245 := aM_ NB245_263.out.symm; replace BK245 := aM_ (bB_ BK245.out hb); have NB246_263 := aM_ ((by rw [hg]; exact Nat.ne_of_lt (bL_ BK246.out) : gb246 ≠ gb263)); have NB263_246 := aM_ NB246_263.out.symm; replace BK246 := aM_ (bB_ BK246.out hb); clear hb hbox hg; obtain ⟨Ao53, co53, eo53⟩ := kS_ HO262.out; subst eo53; have hnb54 := NB263_245.out; have hnc54 := NB245_263.out; have hnb55 := NB263_246.out; have hnc55 := NB246_263.out; have hcz56_0 : w52.cell? ⟨gb263, 0, none⟩ = some (.slice none 0 0) := (bC_ BK263.out 0).trans rfl; have hfz56_0 := bF_ BK263.out 0))
       have n0_ : Aside0 (Kd.R Kd.string 9 (w52.setCell ⟨gb263, 0, none⟩ (.slice Ao53 t260.length co53)) w.heap.size (fun k_ => some k_ ≠ (.slice Ao50 t256.length co50 : Value).ownBlock) (.slice Ao48 x4_1.length co48) x4_1) := ⟨by exact kM_ (kF_ (p := ⟨gb263, 0, none⟩) (kT_ HO_4.out BK263.out (by decide)) (fun _ hk => hk.2) (.slice Ao53 t260.length co53)) (fun _ hk => hk.1.2)⟩
       have n1_ : Aside0 (Kd.R Kd.string 9 (w52.setCell ⟨gb263, 0, none⟩ (.slice Ao53 t260.length co53)) w.heap.size (fun k_ => some k_ ≠ (.slice Ao48 x4_1.length co48 : Value).ownBlock) (.slice Ao50 t256.length co50) t256) := ⟨by exact kM_ (kF_ (p := ⟨gb263, 0, none⟩) (kT_ HO259.out BK263.out (by decide)) (fun _ hk => hk.2) (.slice Ao53 t260.length co53)) (fun _ hk => hk.1.2)⟩
       have n2_ : Aside0 (Kd.R k76 76 (w52.setCell ⟨gb263, 0, none⟩ (.slice Ao53 t260.length co53)) w.heap.size (fun _ => True) (.slice Ao53 t260.length co53) t260) := ⟨by exact kM_ (kF_ (p := ⟨gb263, 0, none⟩) (kT_ HO262.out BK263.out (by decide)) (fun _ hk => hk.2) (.slice Ao53 t260.length co53)) (fun _ hk => trivial)⟩
       have n3_ : Aside0 ((w52.setCell ⟨gb263, 0, none⟩ (.slice Ao53 t260.length co53)).heap[gb245]? = some (.cells #[.slice A0_0 l0_0.length c0_0] 30 (0, 0))) := ⟨by refine bR_ ?_ NB245_263.out _; exact BK245.out⟩
       have n4_ : Aside0 ((w52.setCell ⟨gb263, 0, none⟩ (.slice Ao53 t260.length co53)).heap[gb246]? = some (.cells #[.slice none 0 0] 36 (0, 0))) := ⟨by refine bR_ ?_ NB246_263.out _; exact BK246.out⟩
       have n5_ : Aside0 ((w52.setCell ⟨gb263, 0, none⟩ (.slice Ao53 t260.length co53)).heap[gb263]? = some (.cells #[.slice Ao53 t260.length co53] 36 (0, 0))) := ⟨by refine bP_ (cs := #[.slice none 0 0]) ?_ 0 _ rfl; exact BK263.out⟩
       have n6_ : Aside0 (Below w.heap.size w (w52.setCell ⟨gb263, 0, none⟩ (.slice Ao53 t260.length co53))) := ⟨by repeat (first | (with_reducible first | exact HB.out | apply bA_ | apply bN_ | apply bD_ | refine bS_ ?_ GE245.out | refine bS_ ?_ GE246.out | refine bS_ ?_ GE263.out) | exact HB.out)⟩
       (try clear HO_4)
       (try clear HO259)
       (try clear HO262)
       (try clear BK245)
       (try clear BK246)
       (try clear BK263)
       (try clear HB)
       generalize (w52.setCell ⟨gb263, 0, none⟩ (.slice Ao53 t260.length co53)) = w57 at n0_ n1_ n2_ n3_ n4_ n5_ n6_ ⊢
       have HO_4 := n0_
       have HO259 := n1_
       have HO262 := n2_
       have BK245 := n3_
       have BK246 := n4_
       have BK263 := n5_
       have HB := n6_
       clear n0_ n1_ n2_ n3_ n4_ n5_ n6_
       have n0_ := aM_ (k3_ HO_4.out)
       have n1_ := aM_ (k3_ HO259.out)
       have n2_ := aM_ (k3_ HO262.out)
       have n3_ := aM_ (b1_ BK245.out)
       have n4_ := aM_ (b1_ BK246.out)
       have n5_ := aM_ (b1_ BK263.out)
       have n6_ := aM_ (bD_ HB.out)
       clear HO_4
       clear HO259
       clear HO262
       clear BK245
       clear BK246
       clear BK263
       clear HB
       have HO_4 := n0_
       have HO259 := n1_
       have HO262 := n2_
       have BK245 := n3_
       have BK246 := n4_
       have BK263 := n5_
       have HB := n6_
       clear n0_ n1_ n2_ n3_ n4_ n5_ n6_
       refine start_ (n := 5) (S := fun w' => w'.cell? ⟨gb263, 0, none⟩ = some (.slice Ao53 t260.length co53) ∧ w'.cell? ⟨gb245, 0, none⟩ = some (.slice A0_0 l0_0.length c0_0)) (ds := []) #[fy, fy, fy, fy, fy] (by kernel_rfl) rfl rfl ⟨(bC_ BK263.out 0).trans rfl, (bC_ BK245.out 0).trans rfl⟩ (fun hHeld => ?_)
       generalize w57.drew = w58 at HO_4 HO259 HO262 BK245 BK246 BK263 HB hHeld ⊢
       refine take_ (i := 0) (N := some 45) (v := ?_) (a' := ?_) #[ty, fy, fy, fy, fy] rfl rfl (by kernel_rfl) (fun _ _ _ h => h) (Or.inl ⟨by rfl, ?_⟩) hHeld ?_ ?_; rotate_left; (rintro w' ⟨s0, s1⟩; go_simp; with_reducible rfl); rotate_left; (simp only [Act.put, sA_, sB_, sC_, i6_, i3_]; rfl)
       refine take_ (i := 2) (N := some 47) (v := ?_) (a' := ?_) #[ty, fy, ty, fy, fy] rfl rfl (by kernel_rfl) (fun _ _ _ h => h) (Or.inl ⟨by rfl, ?_⟩) hHeld ?_ ?_; rotate_left; (rintro w' ⟨s0, s1⟩; go_simp; with_reducible rfl); rotate_left; (simp only [Act.put, sA_, sB_, sC_, i6_, i3_]; rfl)
       refine one_ (i := 1) (N := some 46) #[ty, ty, ty, fy, fy] rfl rfl (by kernel_rfl) (by decide) (fun K hK => ?_)
       refine goes_ Tryz.func47 (by kernel_rfl) rfl #[.agg #[.slice Ao53 t260.length co53]] (by rfl) rfl rfl (by (try simp only [sD_, sE_, sF_]); rfl) ?_
       with_reducible refine (spec_l4Press.calls k1 _ _ t260 t264 _ ?side1 ?side2 A25.out).mono ?_
       (case side1 => repeat (first | exact (kR_ HO262.out).2.2 | (with_reducible refine Kd.C_alloc ?_ _) | (with_reducible refine Kd.C_drewN ?_ _) | (with_reducible refine Kd.C_drew ?_)))
       (case side2 => exact (kR_ HO262.out).2.1)
       rintro e w59 ⟨v265, rfl, ho0, hb⟩
       refine ⟨_, rfl, ?_⟩
       have n0_ := aM_ (kB_ HO_4.out hb)
       have n1_ := aM_ (kB_ HO259.out hb)
       have n2_ := aM_ (kB_ HO262.out hb)
       have n3_ := aM_ (k5_ ho0 (bZ_ HB.out))
       have n4_ := aM_ (bB_ BK245.out hb)
       have n5_ := aM_ (bB_ BK246.out hb)
       have n6_ := aM_ (bB_ BK263.out hb)
       have n7_ := aM_ (bT_ HB.out hb)
       clear HO_4
       clear HO259
       clear HO262
       clear BK245
       clear BK246
       clear BK263
       clear HB
       have HO_4 := n0_
       have HO259 := n1_
       have HO262 := n2_
       have HO266 := n3_
       have BK245 := n4_
       have BK246 := n5_
       have BK263 := n6_
       have HB := n7_
       clear n0_ n1_ n2_ n3_ n4_ n5_ n6_ n7_
       (try clear hb)
       (try clear ho0)
       obtain ⟨Ao60, co60, eo60⟩ := kS_ HO266.out
       (subst eo60)
       refine hK.out _ _ ⟨(bC_ BK263.out 0).trans rfl, (bC_ BK245.out 0).trans rfl⟩ (fun hHeld => ?_)
       clear hK K
       refine norm_ (a' := ?_) ?_ ?_; rotate_left; (show Act.put _ (some 46) _ = _; simp only [Act.put, sA_, sB_, sC_, i6_, i3_]; rfl)
       refine one_ (i := 3) (N := some 48) #[ty, ty, ty, ty, fy] rfl rfl (by kernel_rfl) (by decide) (fun K hK => ?_)
       refine goes_ Tryz.func57 (by kernel_rfl) rfl #[.agg #[.slice Ao60 t264.length co60], .agg #[.slice A0_0 l0_0.length c0_0]] (by rfl) rfl rfl (by (try simp only [sD_, sE_, sF_]); rfl) ?_
       with_reducible refine (spec_l4Same.calls k1 _ _ t264 _ _ l0_0 false _ ?side1 ?side2 ?side3 ?side4 A26.out).mono ?_
       (case side1 => repeat (first | exact (kR_ HO266.out).2.2 | (with_reducible refine Kd.C_alloc ?_ _) | (with_reducible refine Kd.C_drewN ?_ _) | (with_reducible refine Kd.C_drew ?_)))
       (case side2 => exact (kR_ HO266.out).2.1)
       (case side3 => repeat (first | exact (k4_ HR0_0.out HB.out) | (with_reducible refine Kd.C_alloc ?_ _) | (with_reducible refine Kd.C_drewN ?_ _) | (with_reducible refine Kd.C_drew ?_)))
       (case side4 => exact HC0_0.out)
       rintro e w61 ⟨rfl, hb⟩
       refine ⟨_, rfl, ?_⟩
       have n0_ := aM_ (kB_ HO_4.out hb)
       have n1_ := aM_ (kB_ HO259.out hb)
       have n2_ := aM_ (kB_ HO262.out hb)
       have n3_ := aM_ (kB_ HO266.out hb)
       have n4_ := aM_ (bB_ BK245.out hb)
       have n5_ := aM_ (bB_ BK246.out hb)
       have n6_ := aM_ (bB_ BK263.out hb)
       have n7_ := aM_ (bT_ HB.out hb)
       clear HO_4
       clear HO259
       clear HO262
       clear HO266
       clear BK245
       clear BK246
       clear BK263
       clear HB
       have HO_4 := n0_
       have HO259 := n1_
       have HO262 := n2_
       have HO266 := n3_
       have BK245 := n4_
       have BK246 := n5_
       have BK263 := n6_
       have HB := n7_
       clear n0_ n1_ n2_ n3_ n4_ n5_ n6_ n7_
       (try clear hb)
       refine hK.out _ _ ⟨(bC_ BK263.out 0).trans rfl, (bC_ BK245.out 0).trans rfl⟩ (fun hHeld => ?_)
       clear hK K
       refine norm_ (a' := ?_) ?_ ?_; rotate_left; (show Act.put _ (some 48) _ = _; simp only [Act.put, sA_, sB_, sC_, i6_, i3_]; rfl)
       refine pure_ (i := 4) (N := some 49) (v := ?_) (a' := ?_) #[ty, ty, ty, ty, ty] rfl rfl (by kernel_rfl) (fun _ _ _ h => h) (Or.inl ⟨by rfl, ?_⟩) ?_ ?_; rotate_left; (intro w'; go_simp; with_reducible rfl); rotate_left; (simp only [Act.put, sA_, sB_, sC_, i6_, i3_]; rfl)
       refine done_ (by kernel_rfl) ?_
       have hcz62_0 : w61.cell? ⟨gb246, 0, none⟩ = some (.slice none 0 0) := (bC_ BK246.out 0).trans rfl
       have hfz62_0 := bF_ BK246.out 0
       try go_wp2
       refine bodyPost_ret (results_ct rfl _ _ gb246 36 #[.slice none 0 0] (0, 0) _ rfl (by refine bP_ (cs := #[.slice none 0 0]) ?_ 0 _ rfl; exact BK246.out) Tryz.underlying36 rfl (by kernel_rfl)) rfl ?_
       exact ⟨_, by rfl, by exact Kd.R_nil _ _ _ _ _, by repeat (first | (with_reducible first | exact HB.out | apply bA_ | apply bN_ | apply bD_ | refine bS_ ?_ GE245.out | refine bS_ ?_ GE246.out | refine bS_ ?_ GE263.out) | exact HB.out)⟩
     ·
      replace c23 := Bool.eq_false_iff.mpr c23
      subst c23
      replace H : (some (([] : List (S76)), false)) = some (r1, r2) := by rw [if_neg (show ¬ (false = true) by decide)] at H; exact H
      simp only [Option.some.injEq, Prod.mk.injEq] at H
      obtain ⟨rfl, rfl⟩ := H
      have hnb63 := NB245_246.out
      have hnc63 := NB246_245.out
      have hcz64_0 : wr.cell? ⟨gb245, 0, none⟩ = some (.slice A0_0 l0_0.length c0_0) := (bC_ BK245.out 0).trans rfl
      have hfz64_0 := bF_ BK245.out 0
      obtain ⟨Ao65, co65, eo65⟩ := kS_ HO_4.out
      subst eo65
      go_wp2_with (first | ((with_reducible refine gC_ (f := 55) rfl ?_); refine goesL_ (some 37) rfl rfl Tryz.func55 (by kernel_rfl) rfl #[.slice Ao65 x4_1.length co65] rfl (by (try simp only [sD_, sE_, sF_]); rfl) ?_; (with_reducible refine (spec_l2Set.calls k1 _ _ x4_1 t256 false _ ?side1 ?side2 A22.out).mono ?_); (case side1 => repeat (first | exact (kR_ HO_4.out).2.2 | (with_reducible refine Kd.C_alloc ?_ _) | (with_reducible refine Kd.C_drewN ?_ _) | (with_reducible refine Kd.C_drew ?_))); (case side2 => exact (kR_ HO_4.out).2.1); rintro e w66 ⟨v258, rfl, ho0, hb⟩; refine ⟨_, rfl, ?_⟩; have HO259 := aM_ (k5_ (Kd.R_new' ho0 (Kd.R_lt HO_4.out)) (bZ_ HB.out)); replace HO_4 := aM_ (Kd.R_elder' HO_4.out (Kd.R_base ho0) hb); replace BK245 := aM_ (bB_ BK245.out hb); replace BK246 := aM_ (bB_ BK246.out hb); replace HB := aM_ (bT_ HB.out hb); (try clear hb); (try clear ho0); have hcz67_0 : w66.cell? ⟨gb246, 0, none⟩ = some (.slice none 0 0) := (bC_ BK246.out 0).trans rfl; have hfz67_0 := bF_ BK246.out 0))
      refine bodyPost_ret (results_ct rfl _ _ gb246 36 #[.slice none 0 0] (0, 0) _ rfl (by refine bP_ (cs := #[.slice none 0 0]) ?_ 0 _ rfl; exact BK246.out) Tryz.underlying36 rfl (by kernel_rfl)) rfl ?_
      exact ⟨_, by rfl, by exact Kd.R_nil _ _ _ _ _, by repeat (first | (with_reducible first | exact HB.out | apply bA_ | apply bN_ | apply bD_ | refine bS_ ?_ GE245.out | refine bS_ ?_ GE246.out) | exact HB.out)⟩
 ·
  replace c3 := Bool.eq_false_iff.mpr c3
  subst c3
  replace H : (some (([] : List (S76)), false)) = some (r1, r2) := by rw [if_neg (show ¬ (false = true) by decide)] at H; exact H
  simp only [Option.some.injEq, Prod.mk.injEq] at H
  obtain ⟨rfl, rfl⟩ := H
  go_enter Tryz.func27, Tryz.ntmps27
  go_wp2_with (first | ((with_reducible refine gD_ (N := 1) rfl ?_); refine bE_ ?hg (N := 1) ?hd (cs := #[.slice A0_0 l0_0.length c0_0]) (t := 30) ?hr ?_; (case hd => rfl); (case hg => rfl); (case hr => (go_simp; done)); intro gb245 hg w68 hbox hb; have BK245 := aM_ (hbox); have GW245 := aM_ ((by rw [hg]; exact (bZ_ HB.out) : w.heap.size ≤ gb245)); have GE245 := GW245; replace HB := aM_ (bT_ HB.out hb); clear hb hbox hg) | ((with_reducible refine gD_ (N := 2) rfl ?_); refine bE_ ?hg (N := 2) ?hd (cs := #[.slice none 0 0]) (t := 36) ?hr ?_; (case hd => rfl); (case hg => rfl); (case hr => (go_simp; done)); intro gb246 hg w69 hbox hb; have BK246 := aM_ (hbox); have GW246 := aM_ ((by rw [hg]; exact (bZ_ HB.out) : w.heap.size ≤ gb246)); have GE246 := GW246; replace HB := aM_ (bT_ HB.out hb); have NB245_246 := aM_ ((by rw [hg]; exact Nat.ne_of_lt (bL_ BK245.out) : gb245 ≠ gb246)); have NB246_245 := aM_ NB245_246.out.symm; replace BK245 := aM_ (bB_ BK245.out hb); clear hb hbox hg) | ((with_reducible refine gD_ (N := 9) rfl ?_); refine Kd.R_lit Kd.string _ 9 ?hg (N := 9) ?hd (xs := ([] : List ByteArray)) (inner := []) (ok := fun _ => True) (okp := fun _ => True) ?hr ?hp (fun _ hk => hk) trivial (Below.refl _ _) (Nat.le_refl _) (by simp) ?_; (case hd => rfl); (case hg => rfl); (case hr => (go_simp; done)); (case hp => exact (Reps.none _ _)); intro v248 w70 ho71 hb hg_ hnew_; clear hg_ hnew_; (rw [← Ny247.out] at ho71); have HO249 := aM_ (k5_ ho71 (bZ_ HB.out)); replace BK245 := aM_ (bB_ BK245.out hb); replace BK246 := aM_ (bB_ BK246.out hb); replace HB := aM_ (bT_ HB.out hb); clear hb ho71; have hnb72 := NB245_246.out; have hnc72 := NB246_245.out; have hcz73_0 : w70.cell? ⟨gb245, 0, none⟩ = some (.slice A0_0 l0_0.length c0_0) := (bC_ BK245.out 0).trans rfl; have hfz73_0 := bF_ BK245.out 0) | ((with_reducible refine gC_ (f := 54) rfl ?_); refine goesL_ (some 13) rfl rfl Tryz.func54 (by kernel_rfl) rfl #[.int .i64 (l0_0.length : Int), .int .i64 1, .int .i64 81] rfl (by (try simp only [sD_, sE_, sF_]); rfl) ?_; (with_reducible refine (spec_l1In.calls (l0_0.length : Int) 1 81 false _ A2.out).mono ?_); rintro e w' ⟨rfl, ⟨nd, rfl⟩⟩; refine ⟨_, rfl, ?_⟩; (try (rw [drewN_self w70]; generalize hq_ : World.drewN w70 _ = w70; have n0_ : Aside0 (Kd.R Kd.string 9 w70 w.heap.size (fun _ => True) v248 y247) := ⟨by rw [← hq_]; exact (by (with_reducible repeat (first | apply k1_ | apply k2_ | apply k3_)); exact HO249.out)⟩; have n1_ : Aside0 (w70.heap[gb245]? = some (.cells #[.slice A0_0 l0_0.length c0_0] 30 (0, 0))) := ⟨by rw [← hq_]; exact (by (with_reducible repeat (first | refine b2_ ?_ _ | refine b1_ ?_ | refine b3_ ?_ _)); exact BK245.out)⟩; have n2_ : Aside0 (w70.heap[gb246]? = some (.cells #[.slice none 0 0] 36 (0, 0))) := ⟨by rw [← hq_]; exact (by (with_reducible repeat (first | refine b2_ ?_ _ | refine b1_ ?_ | refine b3_ ?_ _)); exact BK246.out)⟩; have n3_ : Aside0 (Below w.heap.size w w70) := ⟨by rw [← hq_]; exact (by repeat (first | (with_reducible first | exact HB.out | apply bA_ | apply bN_ | apply bD_ | refine bS_ ?_ GE245.out | refine bS_ ?_ GE246.out) | exact HB.out))⟩; clear HO249 BK245 BK246 HB hq_; have HO249 := n0_; have BK245 := n1_; have BK246 := n2_; have HB := n3_; clear n0_ n1_ n2_ n3_)); have hcz74_0 : w70.cell? ⟨gb246, 0, none⟩ = some (.slice none 0 0) := (bC_ BK246.out 0).trans rfl; have hfz74_0 := bF_ BK246.out 0))
  refine bodyPost_ret (results_ct rfl _ _ gb246 36 #[.slice none 0 0] (0, 0) _ rfl (by refine bP_ (cs := #[.slice none 0 0]) ?_ 0 _ rfl; exact BK246.out) Tryz.underlying36 rfl (by kernel_rfl)) rfl ?_
  exact ⟨_, by rfl, by exact Kd.R_nil _ _ _ _ _, by repeat (first | (with_reducible first | exact HB.out | apply bA_ | apply bN_ | apply bD_ | refine bS_ ?_ GE245.out | refine bS_ ?_ GE246.out) | exact HB.out)⟩
def spec_OpenPressed.f (k : Nat) (l0_0 : List (S60)) : Option ((List (S76)) × Bool) := (spec_l4Open.f k l0_0).bind fun bt512 => (some (bt512.1, bt512.2))
theorem spec_OpenPressed.mono : ∀ a0 k, LeO (spec_OpenPressed.f k a0) (spec_OpenPressed.f (k + 1) a0) := by
 intro a0 k
 unfold spec_OpenPressed.f
 repeat' with_reducible first | exact spec_l4Open.mono _ _ | exact l3_ _ | exact l0_ _ | refine l2_ ?_ ?_ | refine l1_ ?_ (fun _ => ?_)
theorem spec_OpenPressed.calls (k : Nat) (A0_0 : Option Addr) (c0_0 : Nat) (l0_0 : List (S60)) (r1 : List (S76)) (r2 : Bool) (w : World) (hr0_0 : Kd.C k60 w A0_0 l0_0.length l0_0) (hc0_0 : l0_0.length ≤ c0_0) (h : spec_OpenPressed.f k l0_0 = some (r1, r2)) :
  Calls Tryz.prog 13 #[.agg #[.slice A0_0 l0_0.length c0_0]] w fun e w' => ∃ v0_ : Value, e = .returned (.tuple #[.agg #[v0_], .bool r2]) ∧ Kd.R k76 76 w' w.heap.size (fun _ => True) v0_ r1 ∧ Below w.heap.size w w' := by
 have hu30 := Tryz.underlying30
 have hu36 := Tryz.underlying36
 have HR0_0 := aM_ hr0_0
 have HC0_0 := aM_ hc0_0
 clear hr0_0 hc0_0
 have HB := aM_ (Below.refl w.heap.size w)
 have H : ((spec_l4Open.f k l0_0).bind fun bt512 => (some (bt512.1, bt512.2))) = some (r1, r2) := h
 clear h
 replace H := oB_.mp H
 obtain ⟨⟨t512, t515⟩, A20, H⟩ := H
 try dsimp only at H
 have A2 := aM_ A20
 clear A20
 simp only [Option.some.injEq, Prod.mk.injEq] at H
 obtain ⟨rfl, rfl⟩ := H
 go_enter Tryz.func13, Tryz.ntmps13
 go_wp2_with (first | ((with_reducible refine gD_ (N := 1) rfl ?_); refine bE_ ?hg (N := 1) ?hd (cs := #[.slice A0_0 l0_0.length c0_0]) (t := 30) ?hr ?_; (case hd => rfl); (case hg => rfl); (case hr => (go_simp; done)); intro gb510 hg w3 hbox hb; have BK510 := aM_ (hbox); have GW510 := aM_ ((by rw [hg]; exact (bZ_ HB.out) : w.heap.size ≤ gb510)); have GE510 := GW510; replace HB := aM_ (bT_ HB.out hb); clear hb hbox hg) | ((with_reducible refine gD_ (N := 2) rfl ?_); refine bE_ ?hg (N := 2) ?hd (cs := #[.slice none 0 0]) (t := 36) ?hr ?_; (case hd => rfl); (case hg => rfl); (case hr => (go_simp; done)); intro gb511 hg w4 hbox hb; have BK511 := aM_ (hbox); have GW511 := aM_ ((by rw [hg]; exact (bZ_ HB.out) : w.heap.size ≤ gb511)); have GE511 := GW511; replace HB := aM_ (bT_ HB.out hb); have NB510_511 := aM_ ((by rw [hg]; exact Nat.ne_of_lt (bL_ BK510.out) : gb510 ≠ gb511)); have NB511_510 := aM_ NB510_511.out.symm; replace BK510 := aM_ (bB_ BK510.out hb); clear hb hbox hg; have hnb5 := NB510_511.out; have hnc5 := NB511_510.out; have hcz6_0 : w4.cell? ⟨gb510, 0, none⟩ = some (.slice A0_0 l0_0.length c0_0) := (bC_ BK510.out 0).trans rfl; have hfz6_0 := bF_ BK510.out 0) | ((with_reducible refine gC_ (f := 27) rfl ?_); refine goesL_ (some 5) rfl rfl Tryz.func27 (by kernel_rfl) rfl #[.agg #[.slice A0_0 l0_0.length c0_0]] rfl (by (try simp only [sD_, sE_, sF_]); rfl) ?_; (with_reducible refine (spec_l4Open.calls k _ _ l0_0 t512 t515 _ ?side1 ?side2 A2.out).mono ?_); (case side1 => repeat (first | exact (k4_ HR0_0.out HB.out) | (with_reducible refine Kd.C_alloc ?_ _) | (with_reducible refine Kd.C_drewN ?_ _) | (with_reducible refine Kd.C_drew ?_))); (case side2 => exact HC0_0.out); rintro e w7 ⟨v513, rfl, ho0, hb⟩; refine ⟨_, rfl, ?_⟩; have HO514 := aM_ (k5_ ho0 (bZ_ HB.out)); replace BK510 := aM_ (bB_ BK510.out hb); replace BK511 := aM_ (bB_ BK511.out hb); replace HB := aM_ (bT_ HB.out hb); (try clear hb); (try clear ho0); obtain ⟨Ao8, co8, eo8⟩ := kS_ HO514.out; subst eo8; have hcz9_0 : w7.cell? ⟨gb511, 0, none⟩ = some (.slice none 0 0) := (bC_ BK511.out 0).trans rfl; have hfz9_0 := bF_ BK511.out 0))
 refine bodyPost_ret (results_ct rfl _ _ gb511 36 #[.slice Ao8 t512.length co8] (0, 0) _ rfl (by refine bP_ (cs := #[.slice none 0 0]) ?_ 0 _ rfl; exact BK511.out) Tryz.underlying36 rfl (by kernel_rfl)) rfl ?_
 exact ⟨_, by rfl, by exact kM_ (kF_ (p := ⟨gb511, 0, none⟩) (kT_ HO514.out BK511.out (by decide)) (fun _ hk => hk.2) (.slice Ao8 t512.length co8)) (fun _ hk => trivial), by repeat (first | (with_reducible first | exact HB.out | apply bA_ | apply bN_ | apply bD_ | refine bS_ ?_ GE510.out | refine bS_ ?_ GE511.out) | exact HB.out)⟩
end Go.Proofs.YtfhffcefpnkllaaGreatDoor.P
