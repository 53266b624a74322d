/-
  Part 4 of the proof that FnExactSavedNodes returns true for every input: the functions that it reaches, each with its contract, and the law.
  Conditions: those of the given statement, no others.
-/
import Derived.Test.YtnnkedeohfbkeaaCFnExactSavedNodesW0
import Derived.WalkKit
import Derived.ProofKit
import Derived.OpenShut
import Derived.Deep.Slices
import Derived.Deep.Fields
import Derived.ChangeSame
import Derived.Lib.SmallJoins
import Derived.Sort.Walk0
import Derived.Lib.SlicesCompact
import Derived.Test.YtnnkedeohfbkeaaCFnExactSavedNodes0
import Derived.Test.YtnnkedeohfbkeaaCFnExactSavedNodes1
import Derived.Test.YtnnkedeohfbkeaaCFnExactSavedNodes2
set_option linter.unusedVariables false
set_option linter.unusedSimpArgs false
set_option maxHeartbeats 8000000
set_option maxRecDepth 100000
namespace Go.Proofs.Ytnnkedeohfbkeaa.P
open Go.RowKit Go.Proofs.YtnnkedeohfbkeaaW.PrintWords Go.Proofs.YtnnkedeohfbkeaaW.PrintLast Go.Proofs.YtnnkedeohfbkeaaW.PrintMore
open Go.Proofs.YtnnkedeohfbkeaaW.PrintWords renaming blk_frozen → bF_, blk_cell → bC_, below_set → bS_, blk_below → bB_, below_step → bT_, pw_below_drewN → bN_, below_size → bZ_, below_drew1 → bD_, below_alloc → bA_, blk_far → bR_, gate_callee → gC_, gate_dst → gD_, box_event → bE_, blk_drew → b1_, blk_put → bP_, blk_drewN → b2_, blk_alloc → b3_, blk_lt → bL_, cell_far → cF_
open Go.Proofs.YtnnkedeohfbkeaaW.PrintLast renaming any_of → aO_, i64_w → i6_, i32_w → i3_, take_ofW → tW_
open Go.Proofs.YtnnkedeohfbkeaaW.PrintWords.Kd renaming R_below → kB_, R_mono → kM_, R_far → kF_, R_reads' → kR_, R_types → kT_, R_slice → kS_, R_celln → kC_, R_alloc → k1_, R_drewN → k2_, R_drew → k3_, C_below → k4_, R_lower → k5_, R_ne → k6_, own_blk → k7_
open Go.Proofs.YtnnkedeohfbkeaaW.PrintWords.LeO renaming none → l0_, bind → l1_, ite → l2_, refl → l3_
open World renaming block_lt_of_cell? → wB_
open _root_.Option renaming bind_eq_some_iff → oB_
open _root_.ByteArray renaming empty → eB_
open List renaming setIfInBounds_toArray → sA_, set_cons_zero → sB_, set_cons_succ → sC_, map_toArray → sD_, map_cons → sE_, map_nil → sF_, length_drop → sG_, length_take → sH_
open Bool renaming true → ty, false → fy
open Aside0 renaming mk → aM_
attribute [local go_sem] max2_int min2_int max_two min_two max_three min_three max_four min_four
def laws_toNode.f (a0_0 : Int) (a0_1 : Int) (a0_2 : Bool) : Option (Int × Int × Bool) := some (a0_0, a0_1, a0_2)
theorem laws_toNode.calls (a0_0 : Int) (a0_1 : Int) (a0_2 : Bool) (r1 : Int) (r2 : Int) (r3 : Bool) (w : World) (h : laws_toNode.f a0_0 a0_1 a0_2 = some (r1, r2, r3)) :
  Calls Try.prog 37 #[.agg #[.int .i64 a0_0, .int .i64 a0_1, .bool a0_2]] w fun e w' => e = .returned (.agg #[.int .i64 r1, .int .i64 r2, .bool r3]) ∧ Below w.heap.size w w' := by
 have hu67 := Try.underlying67
 have hu65 := Try.underlying65
 have HB := aM_ (Below.refl w.heap.size w)
 have H : (some (a0_0, a0_1, a0_2)) = some (r1, r2, r3) := h
 clear h
 simp only [Option.some.injEq, Prod.mk.injEq] at H
 obtain ⟨rfl, rfl, rfl⟩ := H
 go_enter Try.func37, Try.ntmps37
 go_wp2_with (first | ((with_reducible refine gD_ (N := 1) rfl ?_); refine bE_ ?hg (N := 1) ?hd (cs := #[.int .i64 a0_0, .int .i64 a0_1, .bool a0_2]) (t := 67) ?hr ?_; (case hd => rfl); (case hg => rfl); (case hr => (go_simp; done)); intro gb259 hg w2 hbox hb; have BK259 := aM_ (hbox); have GW259 := aM_ ((by rw [hg]; exact (bZ_ HB.out) : w.heap.size ≤ gb259)); have GE259 := GW259; replace HB := aM_ (bT_ HB.out hb); clear hb hbox hg) | ((with_reducible refine gD_ (N := 2) rfl ?_); refine bE_ ?hg (N := 2) ?hd (cs := #[.int .i64 0, .int .i64 0, .bool false]) (t := 65) ?hr ?_; (case hd => rfl); (case hg => rfl); (case hr => (go_simp; done)); intro gb260 hg w3 hbox hb; have BK260 := aM_ (hbox); have GW260 := aM_ ((by rw [hg]; exact (bZ_ HB.out) : w.heap.size ≤ gb260)); have GE260 := GW260; replace HB := aM_ (bT_ HB.out hb); have NB259_260 := aM_ ((by rw [hg]; exact Nat.ne_of_lt (bL_ BK259.out) : gb259 ≠ gb260)); have NB260_259 := aM_ NB259_260.out.symm; replace BK259 := aM_ (bB_ BK259.out hb); clear hb hbox hg) | ((with_reducible refine gD_ (N := 3) rfl ?_); refine bE_ ?hg (N := 3) ?hd (cs := #[.int .i64 0, .int .i64 0, .bool false]) (t := 65) ?hr ?_; (case hd => rfl); (case hg => rfl); (case hr => (go_simp; done)); intro gb261 hg w4 hbox hb; have BK261 := aM_ (hbox); have GW261 := aM_ ((by rw [hg]; exact (bZ_ HB.out) : w.heap.size ≤ gb261)); have GE261 := GW261; replace HB := aM_ (bT_ HB.out hb); have NB259_261 := aM_ ((by rw [hg]; exact Nat.ne_of_lt (bL_ BK259.out) : gb259 ≠ gb261)); have NB261_259 := aM_ NB259_261.out.symm; replace BK259 := aM_ (bB_ BK259.out hb); have NB260_261 := aM_ ((by rw [hg]; exact Nat.ne_of_lt (bL_ BK260.out) : gb260 ≠ gb261)); have NB261_260 := aM_ NB260_261.out.symm; replace BK260 := aM_ (bB_ BK260.out hb); clear hb hbox hg; have hnb5 := NB259_260.out; have hnc5 := NB260_259.out; have hnb6 := NB259_261.out; have hnc6 := NB261_259.out; have hcz7_0 : w4.cell? ⟨gb259, 0, none⟩ = some (.int .i64 a0_0) := (bC_ BK259.out 0).trans rfl; have hcz7_1 : w4.cell? ⟨gb259, 1, none⟩ = some (.int .i64 a0_1) := (bC_ BK259.out 1).trans rfl; have hcz7_2 : w4.cell? ⟨gb259, 2, none⟩ = some (.bool a0_2) := (bC_ BK259.out 2).trans rfl; have hfz7_0 := bF_ BK259.out 0; have hfz7_1 := bF_ BK259.out 1; have hfz7_2 := bF_ BK259.out 2; have hnb8 := NB261_260.out; have hnc8 := NB260_261.out; have hcz9_0 : w4.cell? ⟨gb261, 0, none⟩ = some (.int .i64 0) := (bC_ BK261.out 0).trans rfl; have hcz9_1 : w4.cell? ⟨gb261, 1, none⟩ = some (.int .i64 0) := (bC_ BK261.out 1).trans rfl; have hcz9_2 : w4.cell? ⟨gb261, 2, none⟩ = some (.bool false) := (bC_ BK261.out 2).trans rfl; have hfz9_0 := bF_ BK261.out 0; have hfz9_1 := bF_ BK261.out 1; have hfz9_2 := bF_ BK261.out 2; have hcz10_0 : w4.cell? ⟨gb260, 0, none⟩ = some (.int .i64 0) := (bC_ BK260.out 0).trans rfl; have hcz10_1 : w4.cell? ⟨gb260, 1, none⟩ = some (.int .i64 0) := (bC_ BK260.out 1).trans rfl; have hcz10_2 : w4.cell? ⟨gb260, 2, none⟩ = some (.bool false) := (bC_ BK260.out 2).trans rfl; have hfz10_0 := bF_ BK260.out 0; have hfz10_1 := bF_ BK260.out 1; have hfz10_2 := bF_ BK260.out 2))
 refine bodyPost_ret (results_cell_row rfl _ _ gb260 65 #[.int .i64 a0_0, .int .i64 a0_1, .bool a0_2] (0, 0) _ rfl (by refine bP_ (cs := #[.int .i64 a0_0, .int .i64 a0_1, .bool false]) ?_ 2 _ rfl; refine bP_ (cs := #[.int .i64 a0_0, .int .i64 0, .bool false]) ?_ 1 _ rfl; refine bP_ (cs := #[.int .i64 0, .int .i64 0, .bool false]) ?_ 0 _ rfl; refine bR_ ?_ NB260_261.out _; refine bR_ ?_ NB260_261.out _; refine bR_ ?_ NB260_261.out _; exact BK260.out) Try.underlying65 rfl (by kernel_rfl)) rfl ?_
 exact ⟨by rfl, by repeat (first | (with_reducible first | exact HB.out | apply bA_ | apply bN_ | apply bD_ | refine bS_ ?_ GE259.out | refine bS_ ?_ GE260.out | refine bS_ ?_ GE261.out) | exact HB.out)⟩
def laws_toNodeS.l0 : Nat → List (S67) → List (S65) → Int → Option ((List (S65)))
 | 0, _, _, _ => none
 | k + 1, x0, x3, x4 => if x4 < (x0.length : Int) then (if 0 ≤ x4 then ((laws_toNode.f ((rd_T67 x0 x4).f0) ((rd_T67 x0 x4).f1) ((rd_T67 x0 x4).f2)).bind fun bt266 => (if x4 < (x3.length : Int) then (laws_toNodeS.l0 k x0 (x3.set (x4 : Int).toNat (⟨bt266.1, bt266.2.1, bt266.2.2⟩ : S65)) (wrap64 (x4 + 1))) else (none))) else (none)) else (some x3)
def laws_toNodeS.f (k : Nat) (l0 : List (S67)) : Option ((List (S65))) := if 0 ≤ (l0.length : Int) then (if ((l0.length : Int) : Int).toNat ≤ 11728124029610 then (laws_toNodeS.l0 k l0 (List.replicate ((l0.length : Int) : Int).toNat z65) 0) else (none)) else (none)
theorem laws_toNodeS.mono_l : ∀ k, (∀ y0 y1 y2, LeO (laws_toNodeS.l0 k y0 y1 y2) (laws_toNodeS.l0 (k + 1) y0 y1 y2))
 | 0 => fun _ _ _ r h => by simp [laws_toNodeS.l0] at h
 | k + 1 => by
  have ih0 := laws_toNodeS.mono_l k
  ·
   intro y0 y1 y2
   unfold laws_toNodeS.l0
   repeat' first
   | (with_reducible exact ih0 _ _ _)
   | (with_reducible exact l3_ _)
   | (with_reducible exact l0_ _)
   | (with_reducible refine l2_ ?_ ?_)
   | (with_reducible refine l1_ ?_ (fun _ => ?_))
   | exact ih0 _ _ _
   | exact l0_ _
   | refine l2_ ?_ ?_
   | refine l1_ ?_ (fun _ => ?_)
theorem laws_toNodeS.mono : ∀ a0 k, LeO (laws_toNodeS.f k a0) (laws_toNodeS.f (k + 1) a0) := by
 intro a0 k
 have ih0 := laws_toNodeS.mono_l k
 unfold laws_toNodeS.f
 repeat' first
   | (with_reducible exact ih0 _ _ _)
   | (with_reducible exact l3_ _)
   | (with_reducible exact l0_ _)
   | (with_reducible refine l2_ ?_ ?_)
   | (with_reducible refine l1_ ?_ (fun _ => ?_))
   | exact ih0 _ _ _
   | exact l0_ _
   | refine l2_ ?_ ?_
   | refine l1_ ?_ (fun _ => ?_)
theorem laws_toNodeS.calls (k : Nat) (A0 : Option Addr) (c0 : Nat) (l0 : List (S67)) (r : List (S65)) (w : World) (hr0 : Kd.C k67 w A0 l0.length l0) (hc0 : l0.length ≤ c0) (h : laws_toNodeS.f k l0 = some r) :
  Calls Try.prog 22 #[.slice A0 l0.length c0] w fun e w' => ∃ v0_ : Value, e = .returned (v0_) ∧ Kd.R k65 65 w' w.heap.size (fun _ => True) v0_ r ∧ Below w.heap.size w w' := by
 have hu67 := Try.underlying67
 have hu65 := Try.underlying65
 have HR0 := aM_ hr0
 have HC0 := aM_ hc0
 clear hr0 hc0
 have HB := aM_ (Below.refl w.heap.size w)
 have H : (if 0 ≤ (l0.length : Int) then (if ((l0.length : Int) : Int).toNat ≤ 11728124029610 then (laws_toNodeS.l0 k l0 (List.replicate ((l0.length : Int) : Int).toNat z65) 0) else (none)) else (none)) = some r := h
 clear h
 by_cases c2 : 0 ≤ (l0.length : Int)
 rotate_left
 ·
  rw [if_neg c2] at H
  exact absurd H (by simp)
 rw [if_pos c2] at H
 have c2b0 := eq_true c2
 have c2b1 := decide_eq_true c2
 clear c2
 by_cases c3 : ((l0.length : Int) : Int).toNat ≤ 11728124029610
 rotate_left
 ·
  rw [if_neg c3] at H
  exact absurd H (by simp)
 rw [if_pos c3] at H
 have c3b0 := eq_true c3
 have c3b1 := decide_eq_true c3
 clear c3
 obtain ⟨y262, hy262⟩ : ∃ y_ : List (S65), y_ = (List.replicate ((l0.length : Int) : Int).toNat z65) := ⟨_, rfl⟩
 replace H : (laws_toNodeS.l0 k l0 y262 0) = some r := by first | (rw [hy262]; with_reducible exact H) | (have H2_ := (Option.bind_some _ _).symm.trans H; rw [hy262]; with_reducible exact H2_) | (have H2_ := (Option.bind_some _ _).symm.trans H; with_reducible exact H2_) | with_reducible exact H | (rw [hy262]; exact H) | exact H
 have Ny262 := aM_ hy262
 clear hy262
 have H' := aM_ H
 clear H
 go_enter Try.func22, Try.ntmps22
 go_wp2_with (first | ((with_reducible refine gD_ (N := 7) rfl ?_); refine Kd.R_make k65 _ 65 rfl (N := 7) rfl 28 _ _ rfl (l0.length : Int) rfl rfl Try.underlying28 (.agg #[(.int .i64 0), (.int .i64 0), (.bool false)]) 24 info65 rfl (by decide) (by omega) z65 (ok := fun _ => True) (okp := fun _ => True) (k65_mkM _ _ _ z65 ) (fun _ hk => hk) trivial (of_decide_eq_true (by (with_reducible assumption))) (Nat.le_trans (Nat.mul_le_mul_right _ (of_decide_eq_true (by (with_reducible assumption)) : (l0.length : Int).toNat ≤ 11728124029610)) (by omega)) (Below.refl _ _) (Nat.le_refl _) ?_; intro v263 w4 ho5 hb hg_ hnew_; clear hg_ hnew_; (rw [← Ny262.out] at ho5); have HO264 := aM_ (k5_ ho5 (bZ_ HB.out)); replace HB := aM_ (bT_ HB.out hb); clear hb ho5))
 go_loopg [4] k (fun kq v4 w' => ∃ (x3_1 : List (S65)) (x4_1 : Int), v4 = .int .i64 x4_1 ∧ Aside0 (laws_toNodeS.l0 kq l0 x3_1 x4_1 = some r) ∧ Aside0 (kq ≤ k) ∧ Aside0 (Kd.R k65 65 w' w.heap.size (fun _ => True) v263 x3_1) ∧ Aside0 (Below w.heap.size w w'))
 case atStart => exact ⟨(y262), (0), (by rfl), H', ⟨Nat.le_refl _⟩, ⟨HO264.out⟩, ⟨HB.out⟩⟩
 case round =>
  clear H'
  try clear c2b0
  try clear c2b1
  try clear p2
  try clear c3b0
  try clear c3b1
  obtain ⟨x3_1, x4_1, rfl, HA, HK1, HO_3, HB⟩ := hrel
  cases gk with
  | zero => exact absurd HA.out (by simp [laws_toNodeS.l0])
  | succ k1 =>
   have H := HA.out
   clear HA
   simp only [laws_toNodeS.l0] at H
   by_cases c6 : x4_1 < (l0.length : Int)
   ·
    rw [if_pos c6] at H
    have c6b0 := decide_eq_true c6
    clear c6
    by_cases c7 : 0 ≤ x4_1
    ·
     rw [if_pos c7] at H
     have c7b0 := decide_eq_true c7
     clear c7
     replace H := oB_.mp H
     obtain ⟨⟨t266, t267, t268⟩, A80, H⟩ := H
     try dsimp only at H
     have A8 := aM_ A80
     clear A80
     by_cases c9 : x4_1 < (x3_1.length : Int)
     ·
      rw [if_pos c9] at H
      have c9b0 := decide_eq_true c9
      clear c9
      obtain ⟨y269, hy269⟩ : ∃ y_ : List (S65), y_ = (x3_1.set (x4_1 : Int).toNat (⟨t266, t267, t268⟩ : S65)) := ⟨_, rfl⟩
      replace H : (laws_toNodeS.l0 k1 l0 y269 (wrap64 (x4_1 + 1))) = some r := by first | (rw [hy269]; with_reducible exact H) | (have H2_ := (Option.bind_some _ _).symm.trans H; rw [hy269]; with_reducible exact H2_) | (have H2_ := (Option.bind_some _ _).symm.trans H; with_reducible exact H2_) | with_reducible exact H | (rw [hy269]; exact H) | exact H
      have Ny269 := aM_ hy269
      clear hy269
      have H' := aM_ H
      clear H
      have p265 : 0 ≤ (x4_1 : Int) := of_decide_eq_true (by (with_reducible assumption))
      have q265 : x4_1 < (l0.length : Int) := of_decide_eq_true (by (with_reducible assumption))
      obtain ⟨ad265, e265, hx265_0, hx265_1, hx265_2⟩ := at_T67 HR0.out x4_1 p265 q265
      cases e265
      replace hx265_0 := (HB.out.cell (wB_ w _ hx265_0)).trans hx265_0
      replace hx265_1 := (HB.out.cell (wB_ w _ hx265_1)).trans hx265_1
      replace hx265_2 := (HB.out.cell (wB_ w _ hx265_2)).trans hx265_2
      replace p265 := eq_true p265
      replace q265 := eq_true q265
      go_wp2_with (first | ((with_reducible refine gC_ (f := 37) rfl ?_); refine goesL_ (some 20) rfl rfl Try.func37 (by kernel_rfl) rfl #[.agg #[.int .i64 ((rd_T67 l0 x4_1).f0), .int .i64 ((rd_T67 l0 x4_1).f1), .bool ((rd_T67 l0 x4_1).f2)]] rfl (by (try simp only [sD_, sE_, sF_]); rfl) ?_; (with_reducible refine (laws_toNode.calls ((rd_T67 l0 x4_1).f0) ((rd_T67 l0 x4_1).f1) ((rd_T67 l0 x4_1).f2) t266 t267 t268 _ A8.out).mono ?_); rintro e w11 ⟨rfl, hb⟩; refine ⟨_, rfl, ?_⟩; replace HO_3 := aM_ (kB_ HO_3.out hb); replace HB := aM_ (bT_ HB.out hb); (try clear hb); have p10 : 0 ≤ (x4_1 : Int) := of_decide_eq_true (by (with_reducible assumption)); have q10 : (x4_1 : Int) < ((x3_1.length : Int) : Int) := of_decide_eq_true (by (with_reducible assumption)); obtain ⟨go10, co10, eo10, gb10, gl10, cl10, HG10⟩ := Kd.R_form HO_3.out (by omega); (cases eo10); have GB10 := aM_ gb10; have GG10 := aM_ HG10; clear gb10 gl10 HG10; obtain ⟨ce10, hcl10, hM10, hcc10, hfr10⟩ := Kd.R_elem HO_3.out z65 (x4_1 : Int) p10 q10; obtain rfl := k65_openM hM10; have hx10_0 : w11.cell? ⟨go10, (x4_1 : Int).toNat * 3, none⟩ = some (.int .i64 ((rd_T65 x3_1 x4_1).f0)) := hcc10 0 _ rfl; have hx10_1 : w11.cell? ⟨go10, (x4_1 : Int).toNat * 3 + 1, none⟩ = some (.int .i64 ((rd_T65 x3_1 x4_1).f1)) := hcc10 1 _ rfl; have hx10_2 : w11.cell? ⟨go10, (x4_1 : Int).toNat * 3 + 2, none⟩ = some (.bool ((rd_T65 x3_1 x4_1).f2)) := hcc10 2 _ rfl; have hf10_0 : w11.frozen? ⟨go10, (x4_1 : Int).toNat * 3, none⟩ = false := hfr10 0; have hf10_1 : w11.frozen? ⟨go10, (x4_1 : Int).toNat * 3 + 1, none⟩ = false := hfr10 1; have hf10_2 : w11.frozen? ⟨go10, (x4_1 : Int).toNat * 3 + 2, none⟩ = false := hfr10 2; clear hcl10 hcc10 hfr10 hM10; replace p10 := eq_true p10; replace q10 := eq_true q10; have HX12 := aM_ (show Kd.R k65 65 w11 w.heap.size (fun _ => True) (.slice (some ⟨go10, 0, none⟩) x3_1.length co10) x3_1 from HO_3.out); obtain ⟨ce12, hcl12, hM12, hcc12, hfr12⟩ := Kd.R_elem HX12.out z65 (x4_1 : Int) (of_decide_eq_true (by (with_reducible assumption))) (by have h_ : (x4_1 : Int) < ((x3_1.length : Int) : Int) := of_decide_eq_true (by (with_reducible assumption)); exact h_); obtain rfl := k65_openM hM12; have HP12 := Kd.R_seg HX12.out (x4_1 : Int) (of_decide_eq_true (by (with_reducible assumption))) (by have h_ : (x4_1 : Int) < ((x3_1.length : Int) : Int) := of_decide_eq_true (by (with_reducible assumption)); exact h_) (seg := [.int .i64 t266, .int .i64 t267, .bool t268]) (j := 0) hcl12 hcc12 (show 3 ≤ 3 from by decide) (x' := (⟨t266, t267, t268⟩ : S65)) (k65_mkM _ _ _ (⟨t266, t267, t268⟩ : S65) ) (fun _ hk => hk); have hx12_0 := hcc12 0 _ rfl; (try simp only [show (k65).sz = 3 from rfl, Nat.mul_one, Nat.add_zero] at hx12_0); have hf12_0 := hfr12 0; (try simp only [show (k65).sz = 3 from rfl, Nat.mul_one, Nat.add_zero] at hf12_0); have hx12_1 := hcc12 1 _ rfl; (try simp only [show (k65).sz = 3 from rfl, Nat.mul_one, Nat.add_zero] at hx12_1); have hf12_1 := hfr12 1; (try simp only [show (k65).sz = 3 from rfl, Nat.mul_one, Nat.add_zero] at hf12_1); have hx12_2 := hcc12 2 _ rfl; (try simp only [show (k65).sz = 3 from rfl, Nat.mul_one, Nat.add_zero] at hx12_2); have hf12_2 := hfr12 2; (try simp only [show (k65).sz = 3 from rfl, Nat.mul_one, Nat.add_zero] at hf12_2); clear hcl12 hcc12 hfr12 hM12) | ((with_reducible refine gate_store (t := 65) (p := 21) rfl ?_); refine store_event (t := 65) (p := 21) (v := ?vo_w13) (w1 := (((w11.setCell ⟨go10, (x4_1 : Int).toNat * 3, none⟩ (.int .i64 t266)).setCell ⟨go10, (x4_1 : Int).toNat * 3 + 1, none⟩ (.int .i64 t267)).setCell ⟨go10, (x4_1 : Int).toNat * 3 + 2, none⟩ (.bool t268))) ?hg ?ho ?hn ?hr ?_; (case ho => rfl); (case hg => rfl); (case hn => rfl); (case hr => (go_simp; done)); intro w13 hw; have hg : w11.grownBy w13 (some go10) := (by rw [hw]; exact HP12.2); have hp_ : Kd.R k65 65 w13 w.heap.size (fun _ => True) (.slice (some ⟨go10, 0, none⟩) x3_1.length co10) y269 := (by rw [hw, Ny269.out]; exact HP12.1); clear HP12; replace HO_3 := aM_ (hp_); replace HB := aM_ ((by rw [hw]; exact bS_ (bS_ (bS_ (HB.out) GB10.out) GB10.out) GB10.out : Below w.heap.size w w13)); clear hg hw hp_))
      go_roundg k1
      case measure => have := HK1.out; omega
      case rel => exact ⟨(y269), (wrap64 (x4_1 + 1)), (by rfl), H', ⟨by have := HK1.out; omega⟩, ⟨HO_3.out⟩, ⟨HB.out⟩⟩
     ·
      rw [if_neg c9] at H
      exact absurd H (by simp)
    ·
     rw [if_neg c7] at H
     exact absurd H (by simp)
   ·
    rw [if_neg c6] at H
    have c6b0 := decide_eq_false c6
    clear c6
    obtain rfl := Option.some.inj H
    go_wp2
    go_ret
    exact ⟨_, by rfl, by exact HO_3.out, by exact HB.out⟩
def laws_toTrie.f (k : Nat) (l0_0 : List (S67)) : Option ((List (S65))) := (laws_toNodeS.f k l0_0).bind fun t273 => (some t273)
theorem laws_toTrie.mono : ∀ a0 k, LeO (laws_toTrie.f k a0) (laws_toTrie.f (k + 1) a0) := by
 intro a0 k
 unfold laws_toTrie.f
 repeat' first
   | (with_reducible exact laws_toNodeS.mono _ _)
   | (with_reducible exact l3_ _)
   | (with_reducible exact l0_ _)
   | (with_reducible refine l2_ ?_ ?_)
   | (with_reducible refine l1_ ?_ (fun _ => ?_))
   | exact laws_toNodeS.mono _ _
   | exact l0_ _
   | refine l2_ ?_ ?_
   | refine l1_ ?_ (fun _ => ?_)
theorem laws_toTrie.calls (k : Nat) (A0_0 : Option Addr) (c0_0 : Nat) (l0_0 : List (S67)) (r : List (S65)) (w : World) (hr0_0 : Kd.C k67 w A0_0 l0_0.length l0_0) (hc0_0 : l0_0.length ≤ c0_0) (h : laws_toTrie.f k l0_0 = some r) :
  Calls Try.prog 8 #[.agg #[.slice A0_0 l0_0.length c0_0]] w fun e w' => ∃ v0_ : Value, e = .returned (.agg #[v0_]) ∧ Kd.R k65 65 w' w.heap.size (fun _ => True) v0_ r ∧ Below w.heap.size w w' := by
 have hu24 := Try.underlying24
 have hu30 := Try.underlying30
 have HR0_0 := aM_ hr0_0
 have HC0_0 := aM_ hc0_0
 clear hr0_0 hc0_0
 have HB := aM_ (Below.refl w.heap.size w)
 have H : ((laws_toNodeS.f k l0_0).bind fun t273 => (some t273)) = some r := h
 clear h
 replace H := oB_.mp H
 obtain ⟨t273, A20, H⟩ := H
 try dsimp only at H
 have A2 := aM_ A20
 clear A20
 obtain rfl := Option.some.inj H
 go_enter Try.func8, Try.ntmps8
 go_wp2_with (first | ((with_reducible refine gD_ (N := 1) rfl ?_); refine bE_ ?hg (N := 1) ?hd (cs := #[.slice A0_0 l0_0.length c0_0]) (t := 24) ?hr ?_; (case hd => rfl); (case hg => rfl); (case hr => (go_simp; done)); intro gb270 hg w3 hbox hb; have BK270 := aM_ (hbox); have GW270 := aM_ ((by rw [hg]; exact (bZ_ HB.out) : w.heap.size ≤ gb270)); have GE270 := GW270; replace HB := aM_ (bT_ HB.out hb); clear hb hbox hg) | ((with_reducible refine gD_ (N := 2) rfl ?_); refine bE_ ?hg (N := 2) ?hd (cs := #[.slice none 0 0]) (t := 30) ?hr ?_; (case hd => rfl); (case hg => rfl); (case hr => (go_simp; done)); intro gb271 hg w4 hbox hb; have BK271 := aM_ (hbox); have GW271 := aM_ ((by rw [hg]; exact (bZ_ HB.out) : w.heap.size ≤ gb271)); have GE271 := GW271; replace HB := aM_ (bT_ HB.out hb); have NB270_271 := aM_ ((by rw [hg]; exact Nat.ne_of_lt (bL_ BK270.out) : gb270 ≠ gb271)); have NB271_270 := aM_ NB270_271.out.symm; replace BK270 := aM_ (bB_ BK270.out hb); clear hb hbox hg) | ((with_reducible refine gD_ (N := 3) rfl ?_); refine bE_ ?hg (N := 3) ?hd (cs := #[.slice none 0 0]) (t := 30) ?hr ?_; (case hd => rfl); (case hg => rfl); (case hr => (go_simp; done)); intro gb272 hg w5 hbox hb; have BK272 := aM_ (hbox); have GW272 := aM_ ((by rw [hg]; exact (bZ_ HB.out) : w.heap.size ≤ gb272)); have GE272 := GW272; replace HB := aM_ (bT_ HB.out hb); have NB270_272 := aM_ ((by rw [hg]; exact Nat.ne_of_lt (bL_ BK270.out) : gb270 ≠ gb272)); have NB272_270 := aM_ NB270_272.out.symm; replace BK270 := aM_ (bB_ BK270.out hb); have NB271_272 := aM_ ((by rw [hg]; exact Nat.ne_of_lt (bL_ BK271.out) : gb271 ≠ gb272)); have NB272_271 := aM_ NB271_272.out.symm; replace BK271 := aM_ (bB_ BK271.out hb); clear hb hbox hg; have hnb6 := NB270_271.out; have hnc6 := NB271_270.out; have hnb7 := NB270_272.out; have hnc7 := NB272_270.out; have hcz8_0 : w5.cell? ⟨gb270, 0, none⟩ = some (.slice A0_0 l0_0.length c0_0) := (bC_ BK270.out 0).trans rfl; have hfz8_0 := bF_ BK270.out 0) | ((with_reducible refine gC_ (f := 22) rfl ?_); refine goesL_ (some 6) rfl rfl Try.func22 (by kernel_rfl) rfl #[.slice A0_0 l0_0.length c0_0] rfl (by (try simp only [sD_, sE_, sF_]); rfl) ?_; (with_reducible refine (laws_toNodeS.calls k _ _ l0_0 t273 _ ?side1 ?side2 A2.out).mono ?_); (case side1 => repeat (first | exact (k4_ HR0_0.out HB.out) | (with_reducible refine Kd.C_alloc ?_ _) | (with_reducible refine Kd.C_drewN ?_ _) | (with_reducible refine Kd.C_drew ?_))); (case side2 => exact HC0_0.out); rintro e w9 ⟨v274, rfl, ho0, hb⟩; refine ⟨_, rfl, ?_⟩; have HO275 := aM_ (k5_ ho0 (bZ_ HB.out)); replace BK270 := aM_ (bB_ BK270.out hb); replace BK271 := aM_ (bB_ BK271.out hb); replace BK272 := aM_ (bB_ BK272.out hb); replace HB := aM_ (bT_ HB.out hb); (try clear hb); (try clear ho0); obtain ⟨Ao10, co10, eo10⟩ := kS_ HO275.out; subst eo10; have hnb11 := NB272_271.out; have hnc11 := NB271_272.out; have hcz12_0 : w9.cell? ⟨gb272, 0, none⟩ = some (.slice none 0 0) := (bC_ BK272.out 0).trans rfl; have hfz12_0 := bF_ BK272.out 0; have hcz13_0 : w9.cell? ⟨gb271, 0, none⟩ = some (.slice none 0 0) := (bC_ BK271.out 0).trans rfl; have hfz13_0 := bF_ BK271.out 0))
 refine bodyPost_ret (results_cell_row rfl _ _ gb271 30 #[.slice Ao10 t273.length co10] (0, 0) _ rfl (by refine bP_ (cs := #[.slice none 0 0]) ?_ 0 _ rfl; refine bR_ ?_ NB271_272.out _; exact BK271.out) Try.underlying30 rfl (by kernel_rfl)) rfl ?_
 exact ⟨_, by rfl, by exact kM_ (kF_ (p := ⟨gb271, 0, none⟩) (kF_ (p := ⟨gb272, 0, none⟩) (kT_ (kT_ HO275.out BK272.out (by decide)) BK271.out (by decide)) (fun _ hk => hk.1.2) (.slice Ao10 t273.length co10)) (fun _ hk => hk.2) (.slice Ao10 t273.length co10)) (fun _ hk => trivial), by repeat (first | (with_reducible first | exact HB.out | apply bA_ | apply bN_ | apply bD_ | refine bS_ ?_ GE270.out | refine bS_ ?_ GE271.out | refine bS_ ?_ GE272.out) | exact HB.out)⟩
end Go.Proofs.Ytnnkedeohfbkeaa.P
namespace Go.Proofs.Ytnnkedeohfbkeaa.P
open Go.RowKit Go.Proofs.YtnnkedeohfbkeaaW.PrintWords Go.Proofs.YtnnkedeohfbkeaaW.PrintLast Go.Proofs.YtnnkedeohfbkeaaW.PrintMore
attribute [local go_sem] max2_int min2_int max_two min_two max_three min_three max_four min_four
namespace OA
open Go.ChangeShapes Go.WideShapes Go.Deep Go.ChangeAt Go.Joins
section
variable {H : Type} {enc : TypeId × Value → H} {P : Program} {w : World} {base : Nat} {spare : Nat → Bool} {held : Bool}
theorem fields {t e : TypeId} {fs : Array Field} {fuel : Nat} {cs : List Value} {x : DataW H × List MemPlace} (ht : P.underlying t = some (.slice e)) (he : P.underlying e = some (.struct fs))
  (hone : oneCellFields P fs = true) (hC : P.cellsOf e = fs.size) (h : DataW.trod enc P w base spare held fuel t cs = some x) :
  (cs = [.slice none 0 0]) ∨
  ∃ (a : Addr) (len cap : Nat), cs = [.slice (some a) len cap] ∧ len ≤ cap ∧ cap ≤ maxLen ∧
   ∀ i, i < len → ∃ n : Nat, ∀ (j : Nat) (f : Field), fs[j]? = some f → ∃ (v : Value) (y : DataW H × List MemPlace), w.cell? (a.add (i * fs.size + j)) = some v ∧ DataW.trod enc P w base spare held n f.type [v] = some y := by
 rcases open_slice ht h with h0 | ⟨a, len, cap, m, n, D, Pl, hcs, hb, hl, hm, hmm, hx, hi⟩
 ·
  exact .inl h0.1
 ·
  refine .inr ⟨a, len, cap, hcs, hl, hm, fun i hil => ?_⟩
  have him : i < m := by rw [hmm]; split <;> omega
  obtain ⟨cs', hc, ht'⟩ := hi i him
  rw [hC] at hc
  obtain ⟨ys, n', hn', hy, hlen, hyl, hf⟩ := DataW.trod_struct he ht'
  obtain ⟨_, hcl, hat⟩ := World.cells?_some hc
  refine ⟨n', fun j f hj => ?_⟩
  obtain ⟨ho, hk⟩ := hone_of hone j f hj
  have hjl : j < fs.size := (Array.getElem?_eq_some_iff.1 hj).1
  have hcell := hat j hjl
  have hv : cs'[j]? = some (cs'[j]'(by omega)) := List.getElem?_eq_getElem (by omega)
  have h1 := hf j f hj
  rw [ho, hk] at h1
  have hone' : (cs'.drop j).take 1 = [cs'[j]'(by omega)] := by
   rw [List.drop_eq_getElem_cons (by omega)]
   rfl
  rw [hone'] at h1
  have hys : ys[j]? = some (ys[j]'(by omega)) := List.getElem?_eq_getElem (by omega)
  refine ⟨_, _, ?_, h1.trans hys⟩
  rw [← Go.Deep.add_add, hcell, hv]
theorem array1 {α : Type} {cs : Array α} (h : cs.size = 1) : ∃ c0, cs = #[c0] := by
 obtain ⟨l⟩ := cs
 match l, h with
 | [c0], _ => exact ⟨c0, rfl⟩
theorem agg1 {r : Reach} {b0 : Nat} {t : TypeId} {f0 : Field} {v : Value} {d : DataW H} {p : List MemPlace} (hs : P.underlying t = some (.struct #[f0])) (hone : oneCellFields P #[f0] = true) (hC : P.cellsOf t = 1)
  (hv : Value.okWide P w r b0 t v) (h : DataW.Trod enc P w base spare held t v d p) :
  ∃ (v0 : Value) (y0 : DataW H × List MemPlace) (n : Nat), v = .agg #[v0] ∧ DataW.trod enc P w base spare held n f0.type [v0] = some y0 := by
 obtain ⟨cs, rfl, hsz⟩ := okWide_struct hs hv
 obtain ⟨c0, rfl⟩ := array1 (hsz.trans hC)
 obtain ⟨fuel, hf⟩ := h
 obtain ⟨xs, n, _, hx, _, hlen, hg⟩ := DataW.trod_struct hs hf
 obtain ⟨o0, k0⟩ := hone_of hone 0 f0 rfl
 have h0 := hg 0 f0 rfl
 have hl : 0 < xs.length := by rw [hlen]; exact Nat.zero_lt_one
 rw [List.getElem?_eq_getElem hl] at h0
 exact ⟨c0, _, n, rfl, by simpa [Value.cells, o0, k0] using h0⟩
end
end OA
end Go.Proofs.Ytnnkedeohfbkeaa.P
namespace Go.Proofs.Ytnnkedeohfbkeaa.P
open Go.RowKit Go.Proofs.YtnnkedeohfbkeaaW.PrintWords Go.Proofs.YtnnkedeohfbkeaaW.PrintLast Go.Proofs.YtnnkedeohfbkeaaW.PrintMore
attribute [local go_sem] max2_int min2_int max_two min_two max_three min_three max_four min_four
namespace OT
open Go.ChangeShapes Go.WideShapes Go.Deep Go.ChangeAt Go.Joins OA
theorem trie {H : Type} {enc : TypeId × Value → H} {w : World} {base : Nat} {spare : Nat → Bool} {held : Bool} {r : Reach} {b0 : Nat} {v : Value} {d : DataW H} {p : List MemPlace}
  (hv : Value.okWide Try.prog w r b0 24 v) (h : DataW.Trod enc Try.prog w base spare held 24 v d p) :
  ∃ (A : Option Addr) (cap : Nat) (l : List S67), v = .agg #[.slice A l.length cap] ∧ l.length ≤ cap ∧ Kd.C k67 w A l.length l := by
 obtain ⟨v0, y0, n, rfl, h0⟩ := agg1 Try.underlying24 (by kernel_rfl) (by kernel_rfl) hv h
 rcases fields Try.underlying22 Try.underlying67 (by kernel_rfl) (by kernel_rfl) h0 with e | ⟨a, len, cap, e, hl, hm, hi⟩
 ·
  obtain rfl : v0 = .slice none 0 0 := by simpa using e
  exact ⟨none, 0, [], rfl, Nat.le_refl _, ⟨rfl, by simp, fun h => absurd h (Nat.lt_irrefl _)⟩⟩
 ·
  obtain rfl : v0 = .slice (some a) len cap := by simpa using e
  have hex : ∀ i, i < len → ∃ x : S67, w.cell? (a.add (i * 3 + 0)) = some (.int .i64 x.f0) ∧ w.cell? (a.add (i * 3 + 1)) = some (.int .i64 x.f1) ∧ w.cell? (a.add (i * 3 + 2)) = some (.bool x.f2) := by
   intro i hil
   obtain ⟨n, hf⟩ := hi i hil
   obtain ⟨u0, y0, c0, t0⟩ := hf 0 _ rfl
   obtain ⟨u1, y1, c1, t1⟩ := hf 1 _ rfl
   obtain ⟨u2, y2, c2, t2⟩ := hf 2 _ rfl
   obtain ⟨n0, e0, _, _⟩ := DataW.trod_int Try.underlying3 t0
   obtain ⟨n1, e1, _, _⟩ := DataW.trod_int Try.underlying3 t1
   obtain ⟨b2, e2, _⟩ := DataW.trod_bool Try.underlying4 t2
   simp only [List.cons.injEq, and_true] at e0 e1 e2
   subst e0 e1 e2
   exact ⟨⟨n0, n1, b2⟩, c0, c1, c2⟩
  obtain ⟨g, hg⟩ : ∃ g : Nat → S67, ∀ i, i < len → w.cell? (a.add (i * 3 + 0)) = some (.int .i64 (g i).f0) ∧ w.cell? (a.add (i * 3 + 1)) = some (.int .i64 (g i).f1) ∧ w.cell? (a.add (i * 3 + 2)) = some (.bool (g i).f2) :=
   ⟨fun i => if h : i < len then Classical.choose (hex i h) else z67, fun i h => by simp only [dif_pos h]; exact Classical.choose_spec (hex i h)⟩
  refine ⟨some a, cap, (List.range len).map g, by simp, by simpa using hl, ⟨by simp, ?_, fun _ => ⟨a, rfl, fun j p hj => ?_⟩⟩⟩
  ·
   have : (maxLen : Nat) ≤ 9223372036854775807 := by decide
   simp; omega
  ·
   obtain ⟨hjl, rfl⟩ := List.getElem?_eq_some_iff.1 hj
   have hjl' : j < len := by simpa using hjl
   obtain ⟨c0, c1, c2⟩ := hg j hjl'
   rw [List.getElem_map, List.getElem_range]
   refine ⟨_, rfl, k67_mk w (g j), fun i u hu => ?_⟩
   match i, hu with
   | 0, hu => obtain rfl := Option.some.inj hu; exact c0
   | 1, hu => obtain rfl := Option.some.inj hu; exact c1
   | 2, hu => obtain rfl := Option.some.inj hu; exact c2
end OT
end Go.Proofs.Ytnnkedeohfbkeaa.P
namespace Go.Proofs.Ytnnkedeohfbkeaa.M
open Go.RowKit Go.Proofs.YtnnkedeohfbkeaaW.PrintWords
theorem wrap64_id {x : Int} (h0 : -9223372036854775808 ≤ x) (h1 : x ≤ 9223372036854775807) : wrap64 x = x := by unfold wrap64; omega
theorem wrap64_succ (n : Nat) (h : n < 4611686018427387904) : wrap64 ((n : Int) + 1) = ((n + 1 : Nat) : Int) := by rw [wrap64_id (by omega) (by omega)]; rfl
theorem rd_nat (xs : List Int) (n : Nat) : rd xs (n : Int) = xs.getD n 0 := by simp [rd]
theorem getD_lt {α : Type} (z : α) {xs : List α} {n : Nat} (h : n < xs.length) : xs.getD n z = xs[n] := by simp [List.getD_eq_getElem?_getD, h]
theorem drop_cons_getD {α : Type} (z : α) {xs : List α} {n : Nat} (h : n < xs.length) : xs.drop n = xs.getD n z :: xs.drop (n + 1) := by
 rw [getD_lt z h]; exact List.drop_eq_getElem_cons h
theorem take_succ_getD {α : Type} (z : α) {xs : List α} {n : Nat} (h : n < xs.length) : xs.take (n + 1) = xs.take n ++ [xs.getD n z] := by
 rw [getD_lt z h, List.take_succ_eq_append_getElem h]
theorem fill_set {α : Type} (z : α) (xs : List α) (n : Nat) (h : n < xs.length) (y : α) : (xs.take n ++ List.replicate (xs.length - n) y).set n (xs.getD n z) = xs.take (n + 1) ++ List.replicate (xs.length - (n + 1)) y := by
 have hl : (xs.take n).length = n := by simp; omega
 rw [List.set_append_right _ _ (by omega), hl, Nat.sub_self, show xs.length - n = (xs.length - (n + 1)) + 1 from by omega, List.replicate_succ, List.set_cons_zero, take_succ_getD z h, List.append_assoc]
 rfl
theorem ite_eqT {α : Type} {c : Prop} [Decidable c] {a b : α} (h : c) : (if c then a else b) = a := if_pos h
theorem ite_eqF {α : Type} {c : Prop} [Decidable c] {a b : α} (h : ¬ c) : (if c then a else b) = b := if_neg h
theorem Ev.bind' {α β : Type} {g : Nat → Option α} {f : Nat → α → Option β} {a : α} {r : β} (h : Ev g a) (k : Ev (fun n => f n a) r) : Ev (fun n => (g n).bind fun t => f n t) r := Ev.bind h k
theorem Ev.pure {α : Type} {r : α} : Ev (fun _ => some r) r := Ev.now r
theorem Ev.some_bind {α β : Type} {a : α} {f : Nat → α → Option β} {r : β} (k : Ev (fun n => f n a) r) : Ev (fun n => (some a).bind fun t => f n t) r := k
theorem Ev.ifT {α : Type} {c : Prop} [Decidable c] {f g : Nat → Option α} {r : α} (h : c) (k : Ev f r) : Ev (fun n => if c then f n else g n) r := by simpa only [if_pos h] using k
theorem Ev.ifF {α : Type} {c : Prop} [Decidable c] {f g : Nat → Option α} {r : α} (h : ¬ c) (k : Ev g r) : Ev (fun n => if c then f n else g n) r := by simpa only [if_neg h] using k
def B (l : List UInt8) : ByteArray := ⟨l.toArray⟩
theorem exB (a : ByteArray) : ∃ l, a = B l := ⟨a.data.toList, ByteArray.ext (by simp [B])⟩
@[simp] theorem data_B (l : List UInt8) : (B l).data.toList = l := by simp [B]
@[simp] theorem toList_B (l : List UInt8) : (B l).toList = l := by rw [Go.ByteArray.toList_eq]; simp
@[simp] theorem size_B (l : List UInt8) : (B l).size = l.length := by rw [← ByteArray.size_data, ← Array.length_toList, data_B]
theorem B_data (a : ByteArray) : B a.data.toList = a := ByteArray.ext (by simp [B])
theorem B_inj {l m : List UInt8} (h : B l = B m) : l = m := by rw [← data_B l, h, data_B]
theorem B_eq {l m : List UInt8} : B l = B m ↔ l = m := ⟨B_inj, fun h => by rw [h]⟩
theorem eq_B {a : ByteArray} {l : List UInt8} (h : a.data.toList = l) : a = B l := by rw [← h, B_data]
@[simp] theorem append_B (l m : List UInt8) : B l ++ B m = B (l ++ m) := eq_B (by simp)
@[simp] theorem extract_B (l : List UInt8) (a b : Nat) : (B l).extract a b = B ((l.drop a).take (b - a)) := eq_B (by simp)
@[simp] theorem nil_B : (⟨#[]⟩ : ByteArray) = B [] := rfl
theorem bt_B (l : List UInt8) (n : Nat) (h : n < l.length) : bt (B l) (n : Int) = ((l.getD n 0).toNat : Int) := by
 have h2 : ((n : Int).toNat) < (B l).size := by simpa using h
 rw [bt, dif_pos h2, getD_lt 0 h]
 simp [B, ByteArray.getElem_eq_getElem_data]
def letterB (c : UInt8) : Bool := decide (97 ≤ c.toNat ∧ c.toNat ≤ 122)
end Go.Proofs.Ytnnkedeohfbkeaa.M
namespace Go.Proofs.Ytnnkedeohfbkeaa.M
abbrev Txt := List UInt8
theorem txt_irrefl (a : Txt) : ¬ a < a := List.lt_irrefl a
theorem txt_trans {a b c : Txt} (h : a < b) (k : b < c) : a < c := List.lt_trans h k
theorem txt_asymm {a b : Txt} (h : a < b) : ¬ b < a := fun k => txt_irrefl a (txt_trans h k)
theorem txt_tri {a b : Txt} (h : ¬ a < b) (k : ¬ b < a) : a = b := List.le_antisymm (List.not_lt.1 k) (List.not_lt.1 h)
def putL : List Txt → Txt → List Txt
 | [], w => [w]
 | x :: r, w => if x < w then x :: putL r w else if x = w then x :: r else w :: x :: r
def foundL : List Txt → Txt → Bool
 | [], _ => false
 | x :: r, w => if x < w then foundL r w else decide (x = w)
theorem putL_found : ∀ (l : List Txt) (w : Txt), foundL l w = true → putL l w = l
 | [], _, h => by simp [foundL] at h
 | x :: r, w, h => by
  by_cases h1 : x < w
  ·
   simp only [foundL, if_pos h1] at h; simp only [putL, if_pos h1, putL_found r w h]
  ·
   simp only [foundL, if_neg h1, decide_eq_true_eq] at h; simp only [putL, if_neg h1, if_pos h]
def Asc (l : List Txt) : Prop := l.Pairwise (· < ·)
theorem mem_putL : ∀ (l : List Txt) (w y : Txt), y ∈ putL l w ↔ y = w ∨ y ∈ l
 | [], w, y => by simp [putL]
 | x :: r, w, y => by
  by_cases h1 : x < w
  ·
   simp only [putL, if_pos h1, List.mem_cons, mem_putL r w y]
   constructor
   ·
    rintro (h | h | h)
    ·
     exact .inr (.inl h)
    ·
     exact .inl h
    ·
     exact .inr (.inr h)
   ·
    rintro (h | h | h)
    ·
     exact .inr (.inl h)
    ·
     exact .inl h
    ·
     exact .inr (.inr h)
  ·
   by_cases h2 : x = w
   ·
    simp only [putL, if_neg h1, if_pos h2, List.mem_cons]
    constructor
    ·
     exact fun h => .inr h
    ·
     rintro (h | h)
     ·
      exact .inl (h.trans h2.symm)
     ·
      exact h
   ·
    simp [putL, h1, h2]
theorem asc_putL : ∀ (l : List Txt) (w : Txt), Asc l → Asc (putL l w)
 | [], w, _ => by simp [putL, Asc]
 | x :: r, w, h => by
  unfold Asc at h ⊢
  rw [List.pairwise_cons] at h
  by_cases h1 : x < w
  ·
   simp only [putL, if_pos h1, List.pairwise_cons]
   refine ⟨fun y hy => ?_, asc_putL r w h.2⟩
   rcases (mem_putL r w y).1 hy with rfl | hy
   ·
    exact h1
   ·
    exact h.1 y hy
  ·
   by_cases h2 : x = w
   ·
    simp only [putL, if_neg h1, if_pos h2]; exact List.pairwise_cons.2 h
   ·
    simp only [putL, if_neg h1, if_neg h2, List.pairwise_cons]
    have hw : w < x := by
     by_cases h3 : w < x
     ·
      exact h3
     ·
      exact absurd (txt_tri h1 h3) h2
    refine ⟨fun y hy => ?_, h⟩
    rcases List.mem_cons.1 hy with rfl | hy
    ·
     exact hw
    ·
     exact txt_trans hw (h.1 y hy)
theorem asc_ext : ∀ (l m : List Txt), Asc l → Asc m → (∀ y, y ∈ l ↔ y ∈ m) → l = m
 | [], [], _, _, _ => rfl
 | [], y :: m, _, _, h => absurd ((h y).2 (by simp)) (by simp)
 | x :: l, [], _, _, h => absurd ((h x).1 (by simp)) (by simp)
 | x :: l, y :: m, hl, hm, h => by
  unfold Asc at hl hm
  rw [List.pairwise_cons] at hl hm
  have hxy : x = y := by
   rcases List.mem_cons.1 ((h x).1 (by simp)) with e | hx
   ·
    exact e
   rcases List.mem_cons.1 ((h y).2 (by simp)) with e | hy
   ·
    exact e.symm
   exact absurd (hm.1 x hx) (txt_asymm (hl.1 y hy))
  subst hxy
  rw [asc_ext l m hl.2 hm.2 ?_]
  intro z
  have := h z
  simp only [List.mem_cons] at this
  constructor
  ·
   intro hz
   rcases this.1 (.inr hz) with e | hz'
   ·
    exact absurd (hl.1 z hz) (by rw [e]; exact txt_irrefl _)
   ·
    exact hz'
  ·
   intro hz
   rcases this.2 (.inr hz) with e | hz'
   ·
    exact absurd (hm.1 z hz) (by rw [e]; exact txt_irrefl _)
   ·
    exact hz'
def setL (l : List Txt) : List Txt := l.foldl putL []
theorem foldl_putL_mem : ∀ (l acc : List Txt) (y : Txt), y ∈ l.foldl putL acc ↔ y ∈ l ∨ y ∈ acc
 | [], acc, y => by simp
 | x :: l, acc, y => by
  rw [List.foldl_cons, foldl_putL_mem l, mem_putL]
  simp only [List.mem_cons]
  constructor
  ·
   rintro (h | h | h)
   ·
    exact .inl (.inr h)
   ·
    exact .inl (.inl h)
   ·
    exact .inr h
  ·
   rintro ((h | h) | h)
   ·
    exact .inr (.inl h)
   ·
    exact .inl h
   ·
    exact .inr (.inr h)
theorem foldl_putL_asc : ∀ (l acc : List Txt), Asc acc → Asc (l.foldl putL acc)
 | [], _, h => h
 | _ :: l, acc, h => foldl_putL_asc l _ (asc_putL acc _ h)
theorem mem_setL (l : List Txt) (y : Txt) : y ∈ setL l ↔ y ∈ l := by simp [setL, foldl_putL_mem]
theorem asc_setL (l : List Txt) : Asc (setL l) := foldl_putL_asc l [] List.Pairwise.nil
theorem setL_of_asc {l : List Txt} (h : Asc l) : setL l = l := asc_ext _ _ (asc_setL l) h (mem_setL l)
theorem putL_length_le : ∀ (l : List Txt) (w : Txt), (putL l w).length ≤ l.length + 1
 | [], w => by simp [putL]
 | x :: r, w => by
  have := putL_length_le r w
  by_cases h1 : x < w
  ·
   simp only [putL, if_pos h1, List.length_cons]; omega
  ·
   by_cases h2 : x = w
   ·
    simp only [putL, if_neg h1, if_pos h2, List.length_cons]; omega
   ·
    simp only [putL, if_neg h1, if_neg h2, List.length_cons]; omega
end Go.Proofs.Ytnnkedeohfbkeaa.M
namespace Go.Proofs.Ytnnkedeohfbkeaa.P
open Go.RowKit Go.Proofs.YtnnkedeohfbkeaaW.PrintWords Go.Proofs.YtnnkedeohfbkeaaW.PrintLast Go.Proofs.YtnnkedeohfbkeaaW.PrintMore
open Go.Proofs.YtnnkedeohfbkeaaW.PrintWords renaming blk_frozen → bF_, blk_cell → bC_, below_set → bS_, blk_below → bB_, below_step → bT_, pw_below_drewN → bN_, below_size → bZ_, below_drew1 → bD_, below_alloc → bA_, blk_far → bR_, gate_callee → gC_, gate_dst → gD_, box_event → bE_, blk_drew → b1_, blk_put → bP_, blk_drewN → b2_, blk_alloc → b3_, blk_lt → bL_, cell_far → cF_
open Go.Proofs.YtnnkedeohfbkeaaW.PrintLast renaming any_of → aO_, i64_w → i6_, i32_w → i3_, take_ofW → tW_
open Go.Proofs.YtnnkedeohfbkeaaW.PrintWords.Kd renaming R_below → kB_, R_mono → kM_, R_far → kF_, R_reads' → kR_, R_types → kT_, R_slice → kS_, R_celln → kC_, R_alloc → k1_, R_drewN → k2_, R_drew → k3_, C_below → k4_, R_lower → k5_, R_ne → k6_, own_blk → k7_
open Go.Proofs.YtnnkedeohfbkeaaW.PrintWords.LeO renaming none → l0_, bind → l1_, ite → l2_, refl → l3_
open World renaming block_lt_of_cell? → wB_
open _root_.Option renaming bind_eq_some_iff → oB_
open _root_.ByteArray renaming empty → eB_
open List renaming setIfInBounds_toArray → sA_, set_cons_zero → sB_, set_cons_succ → sC_, map_toArray → sD_, map_cons → sE_, map_nil → sF_, length_drop → sG_, length_take → sH_
open Bool renaming true → ty, false → fy
open Aside0 renaming mk → aM_
attribute [local go_sem] max2_int min2_int max_two min_two max_three min_three max_four min_four
def spec_l2PutA.l0 : Nat → List ByteArray → ByteArray → Int → Option (List ByteArray)
 | 0, _, _, _ => none
 | k + 1, x0, x1, x5 => if x5 < (x0.length : Int) then (if 0 ≤ x5 then ((spec_l2Before.f k (rdOf eB_ x0 x5) x1).bind fun t110 => (if t110 = true then (spec_l2PutA.l0 k x0 x1 (wrap64 (x5 + 1))) else (if (rdOf eB_ x0 x5).toList = x1.toList then (none) else (if x5 ≤ (x0.length : Int) then ((spec_l2Own.f (x0.take (x5 : Int).toNat)).bind fun t113 => ((some (([x1] : List ByteArray) : List ByteArray)).bind fun y116 => (if t113.length + y116.length < 8796093022208 then ((some (t113 ++ y116 : List ByteArray)).bind fun y119 => (if y119.length + (x0.drop (x5 : Int).toNat).length < 8796093022208 then (some (y119 ++ (x0.drop (x5 : Int).toNat))) else (none))) else (none)))) else (none))))) else (none)) else (if 0 ≤ x5 then (if x5 ≤ (x0.length : Int) then ((spec_l2Own.f (x0.take (x5 : Int).toNat)).bind fun t127 => ((some (([x1] : List ByteArray) : List ByteArray)).bind fun y130 => (if t127.length + y130.length < 8796093022208 then ((some (t127 ++ y130 : List ByteArray)).bind fun y133 => (if y133.length + (x0.drop (x5 : Int).toNat).length < 8796093022208 then (some (y133 ++ (x0.drop (x5 : Int).toNat))) else (none))) else (none)))) else (none)) else (none))
def spec_l2PutA.f (k : Nat) (l0 : List ByteArray) (a1 : ByteArray) : Option (List ByteArray) := spec_l2PutA.l0 k l0 a1 0
theorem spec_l2PutA.mono_l : ∀ k, (∀ y0 y1 y2, LeO (spec_l2PutA.l0 k y0 y1 y2) (spec_l2PutA.l0 (k + 1) y0 y1 y2))
 | 0 => fun _ _ _ r h => by simp [spec_l2PutA.l0] at h
 | k + 1 => by
  have ih0 := spec_l2PutA.mono_l k
  ·
   intro y0 y1 y2
   unfold spec_l2PutA.l0
   repeat' first
   | (with_reducible exact ih0 _ _ _)
   | (with_reducible exact spec_l2Before.mono _ _ _)
   | (with_reducible exact l3_ _)
   | (with_reducible exact l0_ _)
   | (with_reducible refine l2_ ?_ ?_)
   | (with_reducible refine l1_ ?_ (fun _ => ?_))
   | exact ih0 _ _ _
   | exact spec_l2Before.mono _ _ _
   | exact l0_ _
   | refine l2_ ?_ ?_
   | refine l1_ ?_ (fun _ => ?_)
theorem spec_l2PutA.mono : ∀ a0 a1 k, LeO (spec_l2PutA.f k a0 a1) (spec_l2PutA.f (k + 1) a0 a1) := by
 intro a0 a1 k
 have ih0 := spec_l2PutA.mono_l k
 unfold spec_l2PutA.f
 repeat' first
   | (with_reducible exact ih0 _ _ _)
   | (with_reducible exact spec_l2Before.mono _ _ _)
   | (with_reducible exact l3_ _)
   | (with_reducible exact l0_ _)
   | (with_reducible refine l2_ ?_ ?_)
   | (with_reducible refine l1_ ?_ (fun _ => ?_))
   | exact ih0 _ _ _
   | exact spec_l2Before.mono _ _ _
   | exact l0_ _
   | refine l2_ ?_ ?_
   | refine l1_ ?_ (fun _ => ?_)
def spec_l2PutA.T6 : Bool × List (List Nat × List Nat) := (true, [([], []), ([], []), ([0, 1], [0, 1]), ([2], [2]), ([], []), ([4], [4]), ([3, 5, 3], [3, 5]), ([], []), ([], []), ([7, 8], [7, 8]), ([6, 9, 6], [6, 9]), ([10, 10, 0, 1, 2, 3, 4, 5, 6, 7, 8, 9, 10], [10])])
def spec_l2PutA.B6 : List Nat := [0, 0, 3, 7, 0, 16, 63, 0, 0, 384, 1023, 2047]
theorem spec_l2PutA.tab6 : rtab .any (opsOf Try.f59 6) = spec_l2PutA.T6 := by kernel_rfl
theorem spec_l2PutA.bits6 : waitsOk spec_l2PutA.T6.2 spec_l2PutA.B6 = true := by kernel_rfl
theorem spec_l2PutA.calls (k : Nat) (A0 : Option Addr) (c0 : Nat) (l0 : List ByteArray) (a1 : ByteArray) (r : List ByteArray) (w : World) (hr0 : Kd.C Kd.string w A0 l0.length l0) (hc0 : l0.length ≤ c0) (h : spec_l2PutA.f k l0 a1 = some r) :
  Calls Try.prog 59 #[.slice A0 l0.length c0, .string a1] w fun e w' => ∃ v0_ : Value, e = .returned (v0_) ∧ Kd.R Kd.string 9 w' w.heap.size (fun _ => True) v0_ r ∧ Below w.heap.size w w' := by
 have HR0 := aM_ hr0
 have HC0 := aM_ hc0
 clear hr0 hc0
 have HB := aM_ (Below.refl w.heap.size w)
 have H : (spec_l2PutA.l0 k l0 a1 0) = some r := h
 clear h
 have H' := aM_ H
 clear H
 go_enter Try.func59, Try.ntmps59
 go_wp2
 go_loopg [5] k (fun kq v5 w' => ∃ (x5_1 : Int), v5 = .int .i64 x5_1 ∧ Aside0 (spec_l2PutA.l0 kq l0 a1 x5_1 = some r) ∧ Aside0 (kq ≤ k) ∧ Aside0 (Below w.heap.size w w'))
 case atStart => exact ⟨(0), (by rfl), H', ⟨Nat.le_refl _⟩, ⟨HB.out⟩⟩
 case round =>
  clear H'
  try clear p2
  obtain ⟨x5_1, rfl, HA, HK1, HB⟩ := hrel
  cases gk with
  | zero => exact absurd HA.out (by simp [spec_l2PutA.l0])
  | succ k1 =>
   have H := HA.out
   clear HA
   simp only [spec_l2PutA.l0] at H
   by_cases c3 : x5_1 < (l0.length : Int)
   ·
    rw [if_pos c3] at H
    have c3b0 := decide_eq_true c3
    clear c3
    by_cases c4 : 0 ≤ x5_1
    ·
     rw [if_pos c4] at H
     have c4b0 := decide_eq_true c4
     clear c4
     replace H := oB_.mp H
     obtain ⟨t110, A50, H⟩ := H
     try dsimp only at H
     have A5 := aM_ A50
     clear A50
     by_cases c6 : t110 = true
     ·
      subst c6
      rw [if_pos rfl] at H
      have H' := aM_ H
      clear H
      have p109 : 0 ≤ (x5_1 : Int) := of_decide_eq_true (by (with_reducible assumption))
      have q109 : x5_1 < (l0.length : Int) := of_decide_eq_true (by (with_reducible assumption))
      obtain ⟨ad109, e109, hx109_0⟩ := Kd.at_string HR0.out x5_1 p109 q109
      cases e109
      replace hx109_0 := (HB.out.cell (wB_ w _ hx109_0)).trans hx109_0
      replace p109 := eq_true p109
      replace q109 := eq_true q109
      go_wp2_with (first | (go_at_call 71; (with_reducible refine (spec_l2Before.calls k1 (rdOf eB_ l0 x5_1) a1 true _ A5.out).mono ?_); rintro e w' ⟨rfl, ⟨nd, rfl⟩⟩))
      go_roundg k1
      case measure => have := HK1.out; omega
      case rel => exact ⟨(wrap64 (x5_1 + 1)), (by rfl), H', ⟨by have := HK1.out; omega⟩, ⟨by repeat (first | (with_reducible first | exact HB.out | apply bA_ | apply bN_ | apply bD_) | exact HB.out)⟩⟩
     ·
      replace c6 := Bool.eq_false_iff.mpr c6
      subst c6
      have H1 : (if (rdOf eB_ l0 x5_1).toList = a1.toList then (none) else (if x5_1 ≤ (l0.length : Int) then ((spec_l2Own.f (l0.take (x5_1 : Int).toNat)).bind fun t113 => ((some (([a1] : List ByteArray) : List ByteArray)).bind fun y116 => (if t113.length + y116.length < 8796093022208 then ((some (t113 ++ y116 : List ByteArray)).bind fun y119 => (if y119.length + (l0.drop (x5_1 : Int).toNat).length < 8796093022208 then (some (y119 ++ (l0.drop (x5_1 : Int).toNat))) else (none))) else (none)))) else (none))) = some r := by rw [if_neg (show ¬ (false = true) by decide)] at H; exact H
      clear H
      have H := H1
      clear H1
      by_cases c7 : (rdOf eB_ l0 x5_1).toList = a1.toList
      ·
       rw [if_pos c7] at H
       exact absurd H (by simp)
      ·
       rw [if_neg c7] at H
       have c7b0 : ((rdOf eB_ l0 x5_1).toList == a1.toList) = false := beq_eq_false_iff_ne.mpr c7
       have c7b1 : ((rdOf eB_ l0 x5_1).toList != a1.toList) = true := bne_iff_ne.mpr c7
       have c8b0 := eq_true (of_decide_eq_true (by (with_reducible assumption)) : 0 ≤ x5_1)
       by_cases c9 : x5_1 ≤ (l0.length : Int)
       ·
        rw [if_pos c9] at H
        have c9b0 := eq_true c9
        have c9b1 := decide_eq_true c9
        clear c9
        replace H := oB_.mp H
        obtain ⟨t113, A100, H⟩ := H
        try dsimp only at H
        have A10 := aM_ A100
        clear A100
        obtain ⟨y116, hy116⟩ : ∃ y_ : List ByteArray, y_ = (([a1] : List ByteArray)) := ⟨_, rfl⟩
        replace H : (if t113.length + y116.length < 8796093022208 then ((some (t113 ++ y116 : List ByteArray)).bind fun y119 => (if y119.length + (l0.drop (x5_1 : Int).toNat).length < 8796093022208 then (some (y119 ++ (l0.drop (x5_1 : Int).toNat))) else (none))) else (none)) = some r := by first | (rw [hy116]; with_reducible exact H) | (have H2_ := (Option.bind_some _ _).symm.trans H; rw [hy116]; with_reducible exact H2_) | (have H2_ := (Option.bind_some _ _).symm.trans H; with_reducible exact H2_) | with_reducible exact H | (rw [hy116]; exact H) | exact H
        have Ny116 := aM_ hy116
        clear hy116
        by_cases c11 : t113.length + y116.length < 8796093022208
        ·
         rw [if_pos c11] at H
         have LMc11 := aM_ c11
         clear c11
         obtain ⟨y119, hy119⟩ : ∃ y_ : List ByteArray, y_ = (t113 ++ y116) := ⟨_, rfl⟩
         replace H : (if y119.length + (l0.drop (x5_1 : Int).toNat).length < 8796093022208 then (some (y119 ++ (l0.drop (x5_1 : Int).toNat))) else (none)) = some r := by first | (rw [hy119]; with_reducible exact H) | (have H2_ := (Option.bind_some _ _).symm.trans H; rw [hy119]; with_reducible exact H2_) | (have H2_ := (Option.bind_some _ _).symm.trans H; with_reducible exact H2_) | with_reducible exact H | (rw [hy119]; exact H) | exact H
         have Ny119 := aM_ hy119
         clear hy119
         have c12b0 := eq_true (of_decide_eq_true (by (with_reducible assumption)) : 0 ≤ x5_1)
         have c13b0 := eq_true (of_decide_eq_true (by (with_reducible assumption)) : x5_1 ≤ (l0.length : Int))
         by_cases c14 : y119.length + (l0.drop (x5_1 : Int).toNat).length < 8796093022208
         ·
          rw [if_pos c14] at H
          have LMc14 := aM_ c14
          clear c14
          obtain ⟨y123, hy123⟩ : ∃ y_ : List ByteArray, y_ = (y119 ++ (l0.drop (x5_1 : Int).toNat)) := ⟨_, rfl⟩
          replace H : (some y123) = some r := by first | (rw [hy123]; with_reducible exact H) | (have H2_ := (Option.bind_some _ _).symm.trans H; rw [hy123]; with_reducible exact H2_) | (have H2_ := (Option.bind_some _ _).symm.trans H; with_reducible exact H2_) | with_reducible exact H | (rw [hy123]; exact H) | exact H
          have Ny123 := aM_ hy123
          clear hy123
          obtain rfl := Option.some.inj H
          have p109 : 0 ≤ (x5_1 : Int) := of_decide_eq_true (by (with_reducible assumption))
          have q109 : x5_1 < (l0.length : Int) := of_decide_eq_true (by (with_reducible assumption))
          obtain ⟨ad109, e109, hx109_0⟩ := Kd.at_string HR0.out x5_1 p109 q109
          cases e109
          replace hx109_0 := (HB.out.cell (wB_ w _ hx109_0)).trans hx109_0
          replace p109 := eq_true p109
          replace q109 := eq_true q109
          try go_wp2_with (first | (go_at_call 71; (with_reducible refine (spec_l2Before.calls k1 (rdOf eB_ l0 x5_1) a1 false _ A5.out).mono ?_); rintro e w' ⟨rfl, ⟨nd, rfl⟩⟩; have p111 : 0 ≤ (x5_1 : Int) := of_decide_eq_true (by (with_reducible assumption)); have q111 : x5_1 < (l0.length : Int) := of_decide_eq_true (by (with_reducible assumption)); obtain ⟨ad111, e111, hx111_0⟩ := Kd.at_string HR0.out x5_1 p111 q111; obtain rfl : ad109 = ad111 := (by injection e111); replace hx111_0 := (HB.out.cell (wB_ w _ hx111_0)).trans hx111_0; replace p111 := eq_true p111; replace q111 := eq_true q111))
          (try (rw [drewN_self wr]; generalize hq_ : World.drewN wr _ = wr; have n0_ : Aside0 (Below w.heap.size w wr) := ⟨by rw [← hq_]; exact (by repeat (first | (with_reducible first | exact HB.out | apply bA_ | apply bN_ | apply bD_) | exact HB.out))⟩; clear HB hq_; have HB := n0_; clear n0_))
          have n0_ := aM_ (bD_ HB.out)
          clear HB
          have HB := n0_
          clear n0_
          obtain ⟨i016, hi016, _, hsz16, _⟩ := info_parts info9
          obtain ⟨hcut16, hA16, hC16⟩ := print_take_of (P := Try.prog) Value.string (⟨#[]⟩ : ByteArray) 50 9 .i64 Try.underlying50 hi016 hsz16 (some ad109) c0 l0 x5_1 (of_decide_eq_true (by (with_reducible assumption))) (of_decide_eq_true (by (with_reducible assumption))) HC0.out
          have HR112 := aM_ (Kd.C_of_reads (h1 := fun _ => rfl) (hA16 _ (Kd.reads_of_C HR0.out)))
          have HC112 := aM_ hC16
          clear hA16 hC16 hi016 hsz16
          obtain ⟨i017, hi017, _, hsz17, _⟩ := info_parts info9
          obtain ⟨A17, hcut17, hA17, hC17⟩ := print_drop_of (P := Try.prog) Value.string (⟨#[]⟩ : ByteArray) 50 9 .i64 Try.underlying50 hi017 hsz17 (some ad109) c0 l0 x5_1 (of_decide_eq_true (by (with_reducible assumption))) (of_decide_eq_true (by (with_reducible assumption))) HC0.out
          have HR122 := aM_ (Kd.C_of_reads (h1 := fun _ => rfl) (hA17 _ (Kd.reads_of_C HR0.out)))
          have HC122 := aM_ hC17
          clear hA17 hC17 hi017 hsz17
          refine start_ (n := 12) (S := fun w' => True) (ds := []) #[fy, fy, fy, fy, fy, fy, fy, fy, fy, fy, fy, fy] (by kernel_rfl) rfl rfl trivial (fun hHeld => ?_); refine with_tabW spec_l2PutA.tab6 spec_l2PutA.bits6 (fun HT_ HW_ => ?_)
          generalize wr.drew = w15 at HB HR112 HR122 hHeld ⊢
          refine pure_ (i := 0) (N := some 33) (v := ?_) (a' := ?_) #[ty, fy, fy, fy, fy, fy, fy, fy, fy, fy, fy, fy] rfl rfl (aO_ HT_.out (by kernel_rfl)) (fun _ _ _ h => h) (Or.inl ⟨by rfl, ?_⟩) ?_ ?_; rotate_left; (intro w'; go_simp; with_reducible rfl); rotate_left; (simp only [Act.put, sA_, sB_, sC_, i6_, i3_]; rfl)
          refine pure_ (i := 1) (N := some 34) (v := ?_) (a' := ?_) #[ty, ty, fy, fy, fy, fy, fy, fy, fy, fy, fy, fy] rfl rfl (aO_ HT_.out (by kernel_rfl)) (fun _ _ _ h => h) (Or.inl ⟨by rfl, ?_⟩) ?_ ?_; rotate_left; (intro w'; go_simp; with_reducible rfl); rotate_left; (simp only [Act.put, sA_, sB_, sC_, i6_, i3_]; rfl)
          refine pure_ (i := 2) (N := some 35) (v := ?_) (a' := ?_) #[ty, ty, ty, fy, fy, fy, fy, fy, fy, fy, fy, fy] rfl rfl (aO_ HT_.out (by kernel_rfl)) (fun _ _ _ h => h) (Or.inl ⟨by rfl, ?_⟩) ?_ ?_; rotate_left; (intro w'; go_simp; with_reducible rfl); rotate_left; (simp only [Act.put, sA_, sB_, sC_, i6_, i3_]; rfl)
          refine pure_ (i := 4) (N := some 37) (v := ?_) (a' := ?_) #[ty, ty, ty, fy, ty, fy, fy, fy, fy, fy, fy, fy] rfl rfl (aO_ HT_.out (by kernel_rfl)) (fun _ _ _ h => h) (Or.inl ⟨by rfl, ?_⟩) ?_ ?_; rotate_left; (intro w'; go_simp; with_reducible rfl); rotate_left; (simp only [Act.put, sA_, sB_, sC_, i6_, i3_]; rfl)
          refine pure_ (i := 7) (N := some 40) (v := ?_) (a' := ?_) #[ty, ty, ty, fy, ty, fy, fy, ty, fy, fy, fy, fy] rfl rfl (aO_ HT_.out (by kernel_rfl)) (fun _ _ _ h => h) (Or.inl ⟨by rfl, ?_⟩) ?_ ?_; rotate_left; (intro w'; go_simp; with_reducible rfl); rotate_left; (simp only [Act.put, sA_, sB_, sC_, i6_, i3_]; rfl)
          refine pure_ (i := 8) (N := some 41) (v := ?_) (a' := ?_) #[ty, ty, ty, fy, ty, fy, fy, ty, ty, fy, fy, fy] rfl rfl (aO_ HT_.out (by kernel_rfl)) (fun _ _ _ h => h) (Or.inl ⟨by rfl, ?_⟩) ?_ ?_; rotate_left; (intro w'; go_simp; with_reducible rfl); rotate_left; (simp only [Act.put, sA_, sB_, sC_, i6_, i3_]; rfl)
          refine pure_ (i := 9) (N := some 42) (v := ?_) (a' := ?_) #[ty, ty, ty, fy, ty, fy, fy, ty, ty, ty, fy, fy] rfl rfl (aO_ HT_.out (by kernel_rfl)) (fun _ _ _ h => h) (Or.inl ⟨by rfl, ?_⟩) ?_ ?_; rotate_left; (intro w'; go_simp; with_reducible rfl); rotate_left; (simp only [Act.put, sA_, sB_, sC_, i6_, i3_]; rfl)
          refine join_ (σ := Value × Value) 3 #[ty, ty, ty, ty, ty, ty, fy, ty, ty, ty, fy, fy] (fun s_ => [(36, s_.1), (38, s_.2)]) (fun s_ w' => (Kd.R Kd.string 9 w' w.heap.size (fun k_ => some k_ ≠ (s_.2 : Value).ownBlock) s_.1 t113) ∧ (Kd.R Kd.string 9 w' w.heap.size (fun k_ => some k_ ≠ (s_.1 : Value).ownBlock) s_.2 y116) ∧ (Below w.heap.size w w')) ?_ ?_
          rotate_left
          ·
           intro hCont
           refine two_ (i := 3) (j := 5) (Ni := some 36) (Nj := some 38) #[ty, ty, ty, ty, ty, fy, fy, ty, ty, ty, fy, fy] #[ty, ty, ty, fy, ty, ty, fy, ty, ty, ty, fy, fy] rfl rfl rfl rfl (two_of HT_.out (by kernel_rfl)) (by decide) (by decide) (fun K hK => ?_) (fun K hK => ?_)
           ·
            skip
            refine goes_ Try.func72 (by kernel_rfl) rfl #[.slice (some ad109) (l0.take (x5_1 : Int).toNat).length c0] (by rfl) rfl rfl (by (try simp only [sD_, sE_, sF_]); (rw [show (l0.take (x5_1 : Int).toNat).length = x5_1.toNat from (by rw [List.length_take]; have h_ : (x5_1 : Int) ≤ (l0.length : Int) := of_decide_eq_true (by (with_reducible assumption)); omega)] <;> rfl)) ?_
            with_reducible refine (spec_l2Own.calls _ _ (l0.take (x5_1 : Int).toNat) t113 _ ?side1 ?side2 A10.out).mono ?_
            (case side1 => repeat (first | exact (k4_ HR112.out HB.out) | (with_reducible refine Kd.C_alloc ?_ _) | (with_reducible refine Kd.C_drewN ?_ _) | (with_reducible refine Kd.C_drew ?_)))
            (case side2 => exact HC112.out)
            rintro e w18 ⟨v114, rfl, ho0, hb⟩
            refine ⟨_, rfl, ?_⟩
            have n0_ := aM_ (k5_ ho0 (bZ_ HB.out))
            have n1_ := aM_ (bT_ HB.out hb)
            clear HB
            have HO115 := n0_
            have HB := n1_
            clear n0_ n1_
            (try clear hb)
            (try clear ho0)
            refine hK.out _ _ trivial (fun hHeld => ?_)
            clear hK K
            refine norm_ (a' := ?_) ?_ ?_; rotate_left; (show Act.put _ (some 36) _ = _; simp only [Act.put, sA_, sB_, sC_, i6_, i3_]; rfl)
            refine one_ (i := 5) (N := some 38) #[ty, ty, ty, ty, ty, ty, fy, ty, ty, ty, fy, fy] rfl rfl (one_of HT_.out (by kernel_rfl)) (by decide) (fun K hK => ?_)
            refine Kd.R_lit_step Kd.string _ 9 ?hg (N := 38) ?hd (xs := ([a1] : List ByteArray)) (inner := [.string a1]) (ok := fun _ => True) (okp := fun _ => True) ?hr ?hp (fun _ hk => hk) trivial (Below.refl _ _) (Nat.le_refl _) (by simp) ?_; (case hd => rfl); (case hg => rfl); (case hr => (go_simp; done)); (case hp => exact (Reps.one (show Kd.M Kd.string _ _ _ a1 [.string a1] from rfl) (Reps.none _ _)))
            intro v117 w19 ho20 hb hg_ hnew_
            clear hg_ hnew_
            (rw [← Ny116.out] at ho20)
            have n0_ := aM_ (Kd.R_elder' HO115.out (Kd.R_base ho20) hb)
            have n1_ := aM_ (k5_ (Kd.R_new' ho20 (Kd.R_lt HO115.out)) (bZ_ HB.out))
            have n2_ := aM_ (bT_ HB.out hb)
            clear HO115
            clear HB
            have HO115 := n0_
            have HO118 := n1_
            have HB := n2_
            clear n0_ n1_ n2_
            clear hb ho20
            refine hK.out _ _ trivial (fun hHeld => ?_)
            clear hK K
            refine norm_ (a' := ?_) ?_ ?_; rotate_left; (show Act.put _ (some 38) _ = _; simp only [Act.put, sA_, sB_, sC_, i6_, i3_]; rfl)
            exact norm_ (by simp only [putAll, Act.put, sA_, sB_, sC_]) (hCont (v114, v117) _ ⟨(by exact kM_ HO115.out (fun _ hk => hk.2)), (by exact kM_ HO118.out (fun _ hk => hk.2)), HB.out⟩)
           ·
            skip
            refine Kd.R_lit_step Kd.string _ 9 ?hg (N := 38) ?hd (xs := ([a1] : List ByteArray)) (inner := [.string a1]) (ok := fun _ => True) (okp := fun _ => True) ?hr ?hp (fun _ hk => hk) trivial (Below.refl _ _) (Nat.le_refl _) (by simp) ?_; (case hd => rfl); (case hg => rfl); (case hr => (go_simp; done)); (case hp => exact (Reps.one (show Kd.M Kd.string _ _ _ a1 [.string a1] from rfl) (Reps.none _ _)))
            intro v117 w18 ho19 hb hg_ hnew_
            clear hg_ hnew_
            (rw [← Ny116.out] at ho19)
            have n0_ := aM_ (k5_ ho19 (bZ_ HB.out))
            have n1_ := aM_ (bT_ HB.out hb)
            clear HB
            have HO118 := n0_
            have HB := n1_
            clear n0_ n1_
            clear hb ho19
            refine hK.out _ _ trivial (fun hHeld => ?_)
            clear hK K
            refine norm_ (a' := ?_) ?_ ?_; rotate_left; (show Act.put _ (some 38) _ = _; simp only [Act.put, sA_, sB_, sC_, i6_, i3_]; rfl)
            refine one_ (i := 3) (N := some 36) #[ty, ty, ty, ty, ty, ty, fy, ty, ty, ty, fy, fy] rfl rfl (one_of HT_.out (by kernel_rfl)) (by decide) (fun K hK => ?_)
            refine goes_ Try.func72 (by kernel_rfl) rfl #[.slice (some ad109) (l0.take (x5_1 : Int).toNat).length c0] (by rfl) rfl rfl (by (try simp only [sD_, sE_, sF_]); (rw [show (l0.take (x5_1 : Int).toNat).length = x5_1.toNat from (by rw [List.length_take]; have h_ : (x5_1 : Int) ≤ (l0.length : Int) := of_decide_eq_true (by (with_reducible assumption)); omega)] <;> rfl)) ?_
            with_reducible refine (spec_l2Own.calls _ _ (l0.take (x5_1 : Int).toNat) t113 _ ?side1 ?side2 A10.out).mono ?_
            (case side1 => repeat (first | exact (k4_ HR112.out HB.out) | (with_reducible refine Kd.C_alloc ?_ _) | (with_reducible refine Kd.C_drewN ?_ _) | (with_reducible refine Kd.C_drew ?_)))
            (case side2 => exact HC112.out)
            rintro e w20 ⟨v114, rfl, ho0, hb⟩
            refine ⟨_, rfl, ?_⟩
            have n0_ := aM_ (Kd.R_elder' HO118.out (Kd.R_base ho0) hb)
            have n1_ := aM_ (k5_ (Kd.R_new' ho0 (Kd.R_lt HO118.out)) (bZ_ HB.out))
            have n2_ := aM_ (bT_ HB.out hb)
            clear HO118
            clear HB
            have HO118 := n0_
            have HO115 := n1_
            have HB := n2_
            clear n0_ n1_ n2_
            (try clear hb)
            (try clear ho0)
            refine hK.out _ _ trivial (fun hHeld => ?_)
            clear hK K
            refine norm_ (a' := ?_) ?_ ?_; rotate_left; (show Act.put _ (some 36) _ = _; simp only [Act.put, sA_, sB_, sC_, i6_, i3_]; rfl)
            exact norm_ (by simp only [putAll, Act.put, sA_, sB_, sC_]) (hCont (v114, v117) _ ⟨(by exact kM_ HO115.out (fun _ hk => hk.2)), (by exact kM_ HO118.out (fun _ hk => hk.2)), HB.out⟩)
          rintro ⟨v114, v117⟩ w21 ⟨h0_, h1_, h2_⟩
          have n0_ : Aside0 (Kd.R Kd.string 9 w21 w.heap.size (fun k_ => some k_ ≠ (v117 : Value).ownBlock) v114 t113) := ⟨h0_⟩
          have n1_ : Aside0 (Kd.R Kd.string 9 w21 w.heap.size (fun k_ => some k_ ≠ (v114 : Value).ownBlock) v117 y116) := ⟨h1_⟩
          have n2_ : Aside0 (Below w.heap.size w w21) := ⟨h2_⟩
          clear HB
          clear h0_ h1_ h2_
          have HO115 := n0_
          have HO118 := n1_
          have HB := n2_
          clear n0_ n1_ n2_
          have hHeld := trivial
          obtain ⟨Ao23, co23, eo23⟩ := kS_ HO118.out
          (subst eo23)
          refine norm_ (a' := ?_) ?_ ?_
          rotate_left
          ·
           simp only [putAll, Act.put, sA_, sB_, sC_]
           rfl
          refine one_ (i := 6) (N := some 39) #[ty, ty, ty, ty, ty, ty, ty, ty, ty, ty, fy, fy] rfl rfl (one_of HT_.out (by kernel_rfl)) (by decide) (fun K hK => ?_)
          refine Kd.R_append_rows_step Kd.string (w0 := w) w.heap.size (by rfl) (.tmp 36) (.tmp 38) 50 9 (.string ⟨#[]⟩) 16 rfl Try.underlying50 info9 rfl (by decide) (by omega) v114 t113 y116 _ _ _ (fun k_ => some k_ ≠ (.slice Ao23 y116.length co23 : Value).ownBlock) (fun _ => False) rfl rfl ?aO ?aR (fun _ _ h => h) (fun _ h => h.elim) ?aF ?aB ?aS ?aL ?_
          (case aR => repeat (first | exact (kR_ HO118.out).2.2 | (with_reducible refine Kd.C_alloc ?_ _) | (with_reducible refine Kd.C_drewN ?_ _) | (with_reducible refine Kd.C_drew ?_)))
          (case aB => exact HB.out)
          (case aF => exact (fun k_ hk => Kd.fresh' (Kd.R_lt HO118.out) k_ hk))
          (case aO => exact HO115.out)
          (case aS => exact (bZ_ HB.out))
          (case aL => have := LMc11.out; omega)
          intro v120 w22 ho hb hg hat
          rw [← Ny119.out] at ho
          have n0_ := aM_ (Kd.R_after (ok := (fun _ => True)) (by exact kM_ HO118.out (fun _ hk => ⟨trivial, hk⟩)) hg hat)
          have n1_ := aM_ (hb)
          have n2_ := aM_ (ho)
          clear HO118
          clear HB
          clear HO115
          have HO118 := n0_
          have HB := n1_
          have HO121 := n2_
          clear n0_ n1_ n2_
          clear ho hb hg hat
          refine hK.out _ _ trivial (fun hHeld => ?_)
          clear hK K
          refine norm_ (a' := ?_) ?_ ?_; rotate_left; (show Act.put _ (some 39) _ = _; simp only [Act.put, sA_, sB_, sC_, i6_, i3_]; rfl)
          refine one_ (i := 10) (N := some 43) #[ty, ty, ty, ty, ty, ty, ty, ty, ty, ty, ty, fy] rfl rfl (one_of HT_.out (by kernel_rfl)) (by decide) (fun K hK => ?_)
          refine Kd.R_append_rows_step Kd.string (w0 := w) w.heap.size (by rfl) (.tmp 39) (.tmp 42) 50 9 (.string ⟨#[]⟩) 16 rfl Try.underlying50 info9 rfl (by decide) (by omega) v120 y119 (l0.drop (x5_1 : Int).toNat) _ _ _ (fun k_ => some k_ ≠ (.slice Ao23 y116.length co23 : Value).ownBlock) (fun _ => False) rfl rfl ?aO ?aR (fun _ _ h => h) (fun _ h => h.elim) ?aF ?aB ?aS ?aL ?_
          (case aR => (rw [← show (l0.drop (x5_1 : Int).toNat).length = (l0.length - x5_1.toNat) from List.length_drop]; repeat (first | exact (k4_ HR122.out HB.out) | (with_reducible refine Kd.C_alloc ?_ _) | (with_reducible refine Kd.C_drewN ?_ _) | (with_reducible refine Kd.C_drew ?_))))
          (case aB => exact HB.out)
          (case aF => exact (fun k_ hk => Kd.fresh' (Kd.R_lt HO118.out) k_ hk))
          (case aO => exact HO121.out)
          (case aS => exact (bZ_ HB.out))
          (case aL => have := LMc14.out; have hlx_ := (show (l0.drop (x5_1 : Int).toNat).length = (l0.length - x5_1.toNat) from List.length_drop); omega)
          intro v124 w24 ho hb hg hat
          rw [← Ny123.out] at ho
          have n0_ := aM_ (Kd.R_after (ok := (fun _ => True)) HO118.out hg hat)
          have n1_ := aM_ (hb)
          have n2_ := aM_ (ho)
          clear HO118
          clear HB
          clear HO121
          have HO118 := n0_
          have HB := n1_
          have HO125 := n2_
          clear n0_ n1_ n2_
          clear ho hb hg hat
          refine hK.out _ _ trivial (fun hHeld => ?_)
          clear hK K
          refine norm_ (a' := ?_) ?_ ?_; rotate_left; (show Act.put _ (some 43) _ = _; simp only [Act.put, sA_, sB_, sC_, i6_, i3_]; rfl)
          refine pure_ (i := 11) (N := some 4) (v := ?_) (a' := ?_) #[ty, ty, ty, ty, ty, ty, ty, ty, ty, ty, ty, ty] rfl rfl (aO_ HT_.out (by kernel_rfl)) (fun _ _ _ h => h) (Or.inl ⟨by rfl, ?_⟩) ?_ ?_; rotate_left; (intro w'; go_simp; with_reducible rfl); rotate_left; (simp only [Act.put, sA_, sB_, sC_, i6_, i3_]; rfl)
          refine done_ (done_of HT_.out (by kernel_rfl)) ?_
          try go_wp2
          go_ret
          exact ⟨_, by rfl, by exact kM_ HO125.out (fun _ hk => trivial), by exact HB.out⟩
         ·
          rw [if_neg c14] at H
          exact absurd H (by simp)
        ·
         rw [if_neg c11] at H
         exact absurd H (by simp)
       ·
        rw [if_neg c9] at H
        exact absurd H (by simp)
    ·
     rw [if_neg c4] at H
     exact absurd H (by simp)
   ·
    rw [if_neg c3] at H
    have c3b0 := decide_eq_false c3
    clear c3
    by_cases c25 : 0 ≤ x5_1
    ·
     rw [if_pos c25] at H
     have c25b0 := eq_true c25
     have c25b1 := decide_eq_true c25
     clear c25
     by_cases c26 : x5_1 ≤ (l0.length : Int)
     ·
      rw [if_pos c26] at H
      have c26b0 := eq_true c26
      have c26b1 := decide_eq_true c26
      clear c26
      replace H := oB_.mp H
      obtain ⟨t127, A270, H⟩ := H
      try dsimp only at H
      have A27 := aM_ A270
      clear A270
      obtain ⟨y130, hy130⟩ : ∃ y_ : List ByteArray, y_ = (([a1] : List ByteArray)) := ⟨_, rfl⟩
      replace H : (if t127.length + y130.length < 8796093022208 then ((some (t127 ++ y130 : List ByteArray)).bind fun y133 => (if y133.length + (l0.drop (x5_1 : Int).toNat).length < 8796093022208 then (some (y133 ++ (l0.drop (x5_1 : Int).toNat))) else (none))) else (none)) = some r := by first | (rw [hy130]; with_reducible exact H) | (have H2_ := (Option.bind_some _ _).symm.trans H; rw [hy130]; with_reducible exact H2_) | (have H2_ := (Option.bind_some _ _).symm.trans H; with_reducible exact H2_) | with_reducible exact H | (rw [hy130]; exact H) | exact H
      have Ny130 := aM_ hy130
      clear hy130
      by_cases c28 : t127.length + y130.length < 8796093022208
      ·
       rw [if_pos c28] at H
       have LMc28 := aM_ c28
       clear c28
       obtain ⟨y133, hy133⟩ : ∃ y_ : List ByteArray, y_ = (t127 ++ y130) := ⟨_, rfl⟩
       replace H : (if y133.length + (l0.drop (x5_1 : Int).toNat).length < 8796093022208 then (some (y133 ++ (l0.drop (x5_1 : Int).toNat))) else (none)) = some r := by first | (rw [hy133]; with_reducible exact H) | (have H2_ := (Option.bind_some _ _).symm.trans H; rw [hy133]; with_reducible exact H2_) | (have H2_ := (Option.bind_some _ _).symm.trans H; with_reducible exact H2_) | with_reducible exact H | (rw [hy133]; exact H) | exact H
       have Ny133 := aM_ hy133
       clear hy133
       have c29b0 := eq_true (of_decide_eq_true (by (with_reducible assumption)) : 0 ≤ x5_1)
       have c30b0 := eq_true (of_decide_eq_true (by (with_reducible assumption)) : x5_1 ≤ (l0.length : Int))
       by_cases c31 : y133.length + (l0.drop (x5_1 : Int).toNat).length < 8796093022208
       ·
        rw [if_pos c31] at H
        have LMc31 := aM_ c31
        clear c31
        obtain ⟨y137, hy137⟩ : ∃ y_ : List ByteArray, y_ = (y133 ++ (l0.drop (x5_1 : Int).toNat)) := ⟨_, rfl⟩
        replace H : (some y137) = some r := by first | (rw [hy137]; with_reducible exact H) | (have H2_ := (Option.bind_some _ _).symm.trans H; rw [hy137]; with_reducible exact H2_) | (have H2_ := (Option.bind_some _ _).symm.trans H; with_reducible exact H2_) | with_reducible exact H | (rw [hy137]; exact H) | exact H
        have Ny137 := aM_ hy137
        clear hy137
        obtain rfl := Option.some.inj H
        try go_wp2
        have n0_ := aM_ (bD_ HB.out)
        clear HB
        have HB := n0_
        clear n0_
        obtain ⟨i033, hi033, _, hsz33, _⟩ := info_parts info9
        obtain ⟨hcut33, hA33, hC33⟩ := print_take_of (P := Try.prog) Value.string (⟨#[]⟩ : ByteArray) 50 9 .i64 Try.underlying50 hi033 hsz33 A0 c0 l0 x5_1 (of_decide_eq_true (by (with_reducible assumption))) (of_decide_eq_true (by (with_reducible assumption))) HC0.out
        have HR126 := aM_ (Kd.C_of_reads (h1 := fun _ => rfl) (hA33 _ (Kd.reads_of_C HR0.out)))
        have HC126 := aM_ hC33
        clear hA33 hC33 hi033 hsz33
        obtain ⟨i034, hi034, _, hsz34, _⟩ := info_parts info9
        obtain ⟨A34, hcut34, hA34, hC34⟩ := print_drop_of (P := Try.prog) Value.string (⟨#[]⟩ : ByteArray) 50 9 .i64 Try.underlying50 hi034 hsz34 A0 c0 l0 x5_1 (of_decide_eq_true (by (with_reducible assumption))) (of_decide_eq_true (by (with_reducible assumption))) HC0.out
        have HR136 := aM_ (Kd.C_of_reads (h1 := fun _ => rfl) (hA34 _ (Kd.reads_of_C HR0.out)))
        have HC136 := aM_ hC34
        clear hA34 hC34 hi034 hsz34
        refine start_ (n := 12) (S := fun w' => True) (ds := []) #[fy, fy, fy, fy, fy, fy, fy, fy, fy, fy, fy, fy] (by kernel_rfl) rfl rfl trivial (fun hHeld => ?_); refine with_tabW spec_l2PutA.tab6 spec_l2PutA.bits6 (fun HT_ HW_ => ?_)
        generalize wr.drew = w32 at HB HR126 HR136 hHeld ⊢
        refine pure_ (i := 0) (N := some 33) (v := ?_) (a' := ?_) #[ty, fy, fy, fy, fy, fy, fy, fy, fy, fy, fy, fy] rfl rfl (aO_ HT_.out (by kernel_rfl)) (fun _ _ _ h => h) (Or.inl ⟨by rfl, ?_⟩) ?_ ?_; rotate_left; (intro w'; go_simp; with_reducible rfl); rotate_left; (simp only [Act.put, sA_, sB_, sC_, i6_, i3_]; rfl)
        refine pure_ (i := 1) (N := some 34) (v := ?_) (a' := ?_) #[ty, ty, fy, fy, fy, fy, fy, fy, fy, fy, fy, fy] rfl rfl (aO_ HT_.out (by kernel_rfl)) (fun _ _ _ h => h) (Or.inl ⟨by rfl, ?_⟩) ?_ ?_; rotate_left; (intro w'; go_simp; with_reducible rfl); rotate_left; (simp only [Act.put, sA_, sB_, sC_, i6_, i3_]; rfl)
        refine pure_ (i := 2) (N := some 35) (v := ?_) (a' := ?_) #[ty, ty, ty, fy, fy, fy, fy, fy, fy, fy, fy, fy] rfl rfl (aO_ HT_.out (by kernel_rfl)) (fun _ _ _ h => h) (Or.inl ⟨by rfl, ?_⟩) ?_ ?_; rotate_left; (intro w'; go_simp; with_reducible rfl); rotate_left; (simp only [Act.put, sA_, sB_, sC_, i6_, i3_]; rfl)
        refine pure_ (i := 4) (N := some 37) (v := ?_) (a' := ?_) #[ty, ty, ty, fy, ty, fy, fy, fy, fy, fy, fy, fy] rfl rfl (aO_ HT_.out (by kernel_rfl)) (fun _ _ _ h => h) (Or.inl ⟨by rfl, ?_⟩) ?_ ?_; rotate_left; (intro w'; go_simp; with_reducible rfl); rotate_left; (simp only [Act.put, sA_, sB_, sC_, i6_, i3_]; rfl)
        refine pure_ (i := 7) (N := some 40) (v := ?_) (a' := ?_) #[ty, ty, ty, fy, ty, fy, fy, ty, fy, fy, fy, fy] rfl rfl (aO_ HT_.out (by kernel_rfl)) (fun _ _ _ h => h) (Or.inl ⟨by rfl, ?_⟩) ?_ ?_; rotate_left; (intro w'; go_simp; with_reducible rfl); rotate_left; (simp only [Act.put, sA_, sB_, sC_, i6_, i3_]; rfl)
        refine pure_ (i := 8) (N := some 41) (v := ?_) (a' := ?_) #[ty, ty, ty, fy, ty, fy, fy, ty, ty, fy, fy, fy] rfl rfl (aO_ HT_.out (by kernel_rfl)) (fun _ _ _ h => h) (Or.inl ⟨by rfl, ?_⟩) ?_ ?_; rotate_left; (intro w'; go_simp; with_reducible rfl); rotate_left; (simp only [Act.put, sA_, sB_, sC_, i6_, i3_]; rfl)
        refine pure_ (i := 9) (N := some 42) (v := ?_) (a' := ?_) #[ty, ty, ty, fy, ty, fy, fy, ty, ty, ty, fy, fy] rfl rfl (aO_ HT_.out (by kernel_rfl)) (fun _ _ _ h => h) (Or.inl ⟨by rfl, ?_⟩) ?_ ?_; rotate_left; (intro w'; go_simp; with_reducible rfl); rotate_left; (simp only [Act.put, sA_, sB_, sC_, i6_, i3_]; rfl)
        refine join_ (σ := Value × Value) 3 #[ty, ty, ty, ty, ty, ty, fy, ty, ty, ty, fy, fy] (fun s_ => [(36, s_.1), (38, s_.2)]) (fun s_ w' => (Kd.R Kd.string 9 w' w.heap.size (fun k_ => some k_ ≠ (s_.2 : Value).ownBlock) s_.1 t127) ∧ (Kd.R Kd.string 9 w' w.heap.size (fun k_ => some k_ ≠ (s_.1 : Value).ownBlock) s_.2 y130) ∧ (Below w.heap.size w w')) ?_ ?_
        rotate_left
        ·
         intro hCont
         refine two_ (i := 3) (j := 5) (Ni := some 36) (Nj := some 38) #[ty, ty, ty, ty, ty, fy, fy, ty, ty, ty, fy, fy] #[ty, ty, ty, fy, ty, ty, fy, ty, ty, ty, fy, fy] rfl rfl rfl rfl (two_of HT_.out (by kernel_rfl)) (by decide) (by decide) (fun K hK => ?_) (fun K hK => ?_)
         ·
          skip
          refine goes_ Try.func72 (by kernel_rfl) rfl #[.slice A0 (l0.take (x5_1 : Int).toNat).length c0] (by rfl) rfl rfl (by (try simp only [sD_, sE_, sF_]); (rw [show (l0.take (x5_1 : Int).toNat).length = x5_1.toNat from (by rw [List.length_take]; have h_ : (x5_1 : Int) ≤ (l0.length : Int) := of_decide_eq_true (by (with_reducible assumption)); omega)] <;> rfl)) ?_
          with_reducible refine (spec_l2Own.calls _ _ (l0.take (x5_1 : Int).toNat) t127 _ ?side1 ?side2 A27.out).mono ?_
          (case side1 => repeat (first | exact (k4_ HR126.out HB.out) | (with_reducible refine Kd.C_alloc ?_ _) | (with_reducible refine Kd.C_drewN ?_ _) | (with_reducible refine Kd.C_drew ?_)))
          (case side2 => exact HC126.out)
          rintro e w35 ⟨v128, rfl, ho0, hb⟩
          refine ⟨_, rfl, ?_⟩
          have n0_ := aM_ (k5_ ho0 (bZ_ HB.out))
          have n1_ := aM_ (bT_ HB.out hb)
          clear HB
          have HO129 := n0_
          have HB := n1_
          clear n0_ n1_
          (try clear hb)
          (try clear ho0)
          refine hK.out _ _ trivial (fun hHeld => ?_)
          clear hK K
          refine norm_ (a' := ?_) ?_ ?_; rotate_left; (show Act.put _ (some 36) _ = _; simp only [Act.put, sA_, sB_, sC_, i6_, i3_]; rfl)
          refine one_ (i := 5) (N := some 38) #[ty, ty, ty, ty, ty, ty, fy, ty, ty, ty, fy, fy] rfl rfl (one_of HT_.out (by kernel_rfl)) (by decide) (fun K hK => ?_)
          refine Kd.R_lit_step Kd.string _ 9 ?hg (N := 38) ?hd (xs := ([a1] : List ByteArray)) (inner := [.string a1]) (ok := fun _ => True) (okp := fun _ => True) ?hr ?hp (fun _ hk => hk) trivial (Below.refl _ _) (Nat.le_refl _) (by simp) ?_; (case hd => rfl); (case hg => rfl); (case hr => (go_simp; done)); (case hp => exact (Reps.one (show Kd.M Kd.string _ _ _ a1 [.string a1] from rfl) (Reps.none _ _)))
          intro v131 w36 ho37 hb hg_ hnew_
          clear hg_ hnew_
          (rw [← Ny130.out] at ho37)
          have n0_ := aM_ (Kd.R_elder' HO129.out (Kd.R_base ho37) hb)
          have n1_ := aM_ (k5_ (Kd.R_new' ho37 (Kd.R_lt HO129.out)) (bZ_ HB.out))
          have n2_ := aM_ (bT_ HB.out hb)
          clear HO129
          clear HB
          have HO129 := n0_
          have HO132 := n1_
          have HB := n2_
          clear n0_ n1_ n2_
          clear hb ho37
          refine hK.out _ _ trivial (fun hHeld => ?_)
          clear hK K
          refine norm_ (a' := ?_) ?_ ?_; rotate_left; (show Act.put _ (some 38) _ = _; simp only [Act.put, sA_, sB_, sC_, i6_, i3_]; rfl)
          exact norm_ (by simp only [putAll, Act.put, sA_, sB_, sC_]) (hCont (v128, v131) _ ⟨(by exact kM_ HO129.out (fun _ hk => hk.2)), (by exact kM_ HO132.out (fun _ hk => hk.2)), HB.out⟩)
         ·
          skip
          refine Kd.R_lit_step Kd.string _ 9 ?hg (N := 38) ?hd (xs := ([a1] : List ByteArray)) (inner := [.string a1]) (ok := fun _ => True) (okp := fun _ => True) ?hr ?hp (fun _ hk => hk) trivial (Below.refl _ _) (Nat.le_refl _) (by simp) ?_; (case hd => rfl); (case hg => rfl); (case hr => (go_simp; done)); (case hp => exact (Reps.one (show Kd.M Kd.string _ _ _ a1 [.string a1] from rfl) (Reps.none _ _)))
          intro v131 w35 ho36 hb hg_ hnew_
          clear hg_ hnew_
          (rw [← Ny130.out] at ho36)
          have n0_ := aM_ (k5_ ho36 (bZ_ HB.out))
          have n1_ := aM_ (bT_ HB.out hb)
          clear HB
          have HO132 := n0_
          have HB := n1_
          clear n0_ n1_
          clear hb ho36
          refine hK.out _ _ trivial (fun hHeld => ?_)
          clear hK K
          refine norm_ (a' := ?_) ?_ ?_; rotate_left; (show Act.put _ (some 38) _ = _; simp only [Act.put, sA_, sB_, sC_, i6_, i3_]; rfl)
          refine one_ (i := 3) (N := some 36) #[ty, ty, ty, ty, ty, ty, fy, ty, ty, ty, fy, fy] rfl rfl (one_of HT_.out (by kernel_rfl)) (by decide) (fun K hK => ?_)
          refine goes_ Try.func72 (by kernel_rfl) rfl #[.slice A0 (l0.take (x5_1 : Int).toNat).length c0] (by rfl) rfl rfl (by (try simp only [sD_, sE_, sF_]); (rw [show (l0.take (x5_1 : Int).toNat).length = x5_1.toNat from (by rw [List.length_take]; have h_ : (x5_1 : Int) ≤ (l0.length : Int) := of_decide_eq_true (by (with_reducible assumption)); omega)] <;> rfl)) ?_
          with_reducible refine (spec_l2Own.calls _ _ (l0.take (x5_1 : Int).toNat) t127 _ ?side1 ?side2 A27.out).mono ?_
          (case side1 => repeat (first | exact (k4_ HR126.out HB.out) | (with_reducible refine Kd.C_alloc ?_ _) | (with_reducible refine Kd.C_drewN ?_ _) | (with_reducible refine Kd.C_drew ?_)))
          (case side2 => exact HC126.out)
          rintro e w37 ⟨v128, rfl, ho0, hb⟩
          refine ⟨_, rfl, ?_⟩
          have n0_ := aM_ (Kd.R_elder' HO132.out (Kd.R_base ho0) hb)
          have n1_ := aM_ (k5_ (Kd.R_new' ho0 (Kd.R_lt HO132.out)) (bZ_ HB.out))
          have n2_ := aM_ (bT_ HB.out hb)
          clear HO132
          clear HB
          have HO132 := n0_
          have HO129 := n1_
          have HB := n2_
          clear n0_ n1_ n2_
          (try clear hb)
          (try clear ho0)
          refine hK.out _ _ trivial (fun hHeld => ?_)
          clear hK K
          refine norm_ (a' := ?_) ?_ ?_; rotate_left; (show Act.put _ (some 36) _ = _; simp only [Act.put, sA_, sB_, sC_, i6_, i3_]; rfl)
          exact norm_ (by simp only [putAll, Act.put, sA_, sB_, sC_]) (hCont (v128, v131) _ ⟨(by exact kM_ HO129.out (fun _ hk => hk.2)), (by exact kM_ HO132.out (fun _ hk => hk.2)), HB.out⟩)
        rintro ⟨v128, v131⟩ w38 ⟨h0_, h1_, h2_⟩
        have n0_ : Aside0 (Kd.R Kd.string 9 w38 w.heap.size (fun k_ => some k_ ≠ (v131 : Value).ownBlock) v128 t127) := ⟨h0_⟩
        have n1_ : Aside0 (Kd.R Kd.string 9 w38 w.heap.size (fun k_ => some k_ ≠ (v128 : Value).ownBlock) v131 y130) := ⟨h1_⟩
        have n2_ : Aside0 (Below w.heap.size w w38) := ⟨h2_⟩
        clear HB
        clear h0_ h1_ h2_
        have HO129 := n0_
        have HO132 := n1_
        have HB := n2_
        clear n0_ n1_ n2_
        have hHeld := trivial
        obtain ⟨Ao40, co40, eo40⟩ := kS_ HO132.out
        (subst eo40)
        refine norm_ (a' := ?_) ?_ ?_
        rotate_left
        ·
         simp only [putAll, Act.put, sA_, sB_, sC_]
         rfl
        refine one_ (i := 6) (N := some 39) #[ty, ty, ty, ty, ty, ty, ty, ty, ty, ty, fy, fy] rfl rfl (one_of HT_.out (by kernel_rfl)) (by decide) (fun K hK => ?_)
        refine Kd.R_append_rows_step Kd.string (w0 := w) w.heap.size (by rfl) (.tmp 36) (.tmp 38) 50 9 (.string ⟨#[]⟩) 16 rfl Try.underlying50 info9 rfl (by decide) (by omega) v128 t127 y130 _ _ _ (fun k_ => some k_ ≠ (.slice Ao40 y130.length co40 : Value).ownBlock) (fun _ => False) rfl rfl ?aO ?aR (fun _ _ h => h) (fun _ h => h.elim) ?aF ?aB ?aS ?aL ?_
        (case aR => repeat (first | exact (kR_ HO132.out).2.2 | (with_reducible refine Kd.C_alloc ?_ _) | (with_reducible refine Kd.C_drewN ?_ _) | (with_reducible refine Kd.C_drew ?_)))
        (case aB => exact HB.out)
        (case aF => exact (fun k_ hk => Kd.fresh' (Kd.R_lt HO132.out) k_ hk))
        (case aO => exact HO129.out)
        (case aS => exact (bZ_ HB.out))
        (case aL => have := LMc28.out; omega)
        intro v134 w39 ho hb hg hat
        rw [← Ny133.out] at ho
        have n0_ := aM_ (Kd.R_after (ok := (fun _ => True)) (by exact kM_ HO132.out (fun _ hk => ⟨trivial, hk⟩)) hg hat)
        have n1_ := aM_ (hb)
        have n2_ := aM_ (ho)
        clear HO132
        clear HB
        clear HO129
        have HO132 := n0_
        have HB := n1_
        have HO135 := n2_
        clear n0_ n1_ n2_
        clear ho hb hg hat
        refine hK.out _ _ trivial (fun hHeld => ?_)
        clear hK K
        refine norm_ (a' := ?_) ?_ ?_; rotate_left; (show Act.put _ (some 39) _ = _; simp only [Act.put, sA_, sB_, sC_, i6_, i3_]; rfl)
        refine one_ (i := 10) (N := some 43) #[ty, ty, ty, ty, ty, ty, ty, ty, ty, ty, ty, fy] rfl rfl (one_of HT_.out (by kernel_rfl)) (by decide) (fun K hK => ?_)
        refine Kd.R_append_rows_step Kd.string (w0 := w) w.heap.size (by rfl) (.tmp 39) (.tmp 42) 50 9 (.string ⟨#[]⟩) 16 rfl Try.underlying50 info9 rfl (by decide) (by omega) v134 y133 (l0.drop (x5_1 : Int).toNat) _ _ _ (fun k_ => some k_ ≠ (.slice Ao40 y130.length co40 : Value).ownBlock) (fun _ => False) rfl rfl ?aO ?aR (fun _ _ h => h) (fun _ h => h.elim) ?aF ?aB ?aS ?aL ?_
        (case aR => (rw [← show (l0.drop (x5_1 : Int).toNat).length = (l0.length - x5_1.toNat) from List.length_drop]; repeat (first | exact (k4_ HR136.out HB.out) | (with_reducible refine Kd.C_alloc ?_ _) | (with_reducible refine Kd.C_drewN ?_ _) | (with_reducible refine Kd.C_drew ?_))))
        (case aB => exact HB.out)
        (case aF => exact (fun k_ hk => Kd.fresh' (Kd.R_lt HO132.out) k_ hk))
        (case aO => exact HO135.out)
        (case aS => exact (bZ_ HB.out))
        (case aL => have := LMc31.out; have hlx_ := (show (l0.drop (x5_1 : Int).toNat).length = (l0.length - x5_1.toNat) from List.length_drop); omega)
        intro v138 w41 ho hb hg hat
        rw [← Ny137.out] at ho
        have n0_ := aM_ (Kd.R_after (ok := (fun _ => True)) HO132.out hg hat)
        have n1_ := aM_ (hb)
        have n2_ := aM_ (ho)
        clear HO132
        clear HB
        clear HO135
        have HO132 := n0_
        have HB := n1_
        have HO139 := n2_
        clear n0_ n1_ n2_
        clear ho hb hg hat
        refine hK.out _ _ trivial (fun hHeld => ?_)
        clear hK K
        refine norm_ (a' := ?_) ?_ ?_; rotate_left; (show Act.put _ (some 43) _ = _; simp only [Act.put, sA_, sB_, sC_, i6_, i3_]; rfl)
        refine pure_ (i := 11) (N := some 4) (v := ?_) (a' := ?_) #[ty, ty, ty, ty, ty, ty, ty, ty, ty, ty, ty, ty] rfl rfl (aO_ HT_.out (by kernel_rfl)) (fun _ _ _ h => h) (Or.inl ⟨by rfl, ?_⟩) ?_ ?_; rotate_left; (intro w'; go_simp; with_reducible rfl); rotate_left; (simp only [Act.put, sA_, sB_, sC_, i6_, i3_]; rfl)
        refine done_ (done_of HT_.out (by kernel_rfl)) ?_
        try go_wp2
        go_ret
        exact ⟨_, by rfl, by exact kM_ HO139.out (fun _ hk => trivial), by exact HB.out⟩
       ·
        rw [if_neg c31] at H
        exact absurd H (by simp)
      ·
       rw [if_neg c28] at H
       exact absurd H (by simp)
     ·
      rw [if_neg c26] at H
      exact absurd H (by simp)
    ·
     rw [if_neg c25] at H
     exact absurd H (by simp)
def spec_l2PutB.l0 : Nat → List ByteArray → ByteArray → Int → Option (List ByteArray)
 | 0, _, _, _ => none
 | k + 1, x0, x1, x5 => if x5 < (x0.length : Int) then (if 0 ≤ x5 then ((spec_l2Before.f k (rdOf eB_ x0 x5) x1).bind fun t141 => (if t141 = true then (spec_l2PutB.l0 k x0 x1 (wrap64 (x5 + 1))) else (if (rdOf eB_ x0 x5).toList = x1.toList then (some x0) else (none)))) else (none)) else (none)
def spec_l2PutB.f (k : Nat) (l0 : List ByteArray) (a1 : ByteArray) : Option (List ByteArray) := spec_l2PutB.l0 k l0 a1 0
theorem spec_l2PutB.mono_l : ∀ k, (∀ y0 y1 y2, LeO (spec_l2PutB.l0 k y0 y1 y2) (spec_l2PutB.l0 (k + 1) y0 y1 y2))
 | 0 => fun _ _ _ r h => by simp [spec_l2PutB.l0] at h
 | k + 1 => by
  have ih0 := spec_l2PutB.mono_l k
  ·
   intro y0 y1 y2
   unfold spec_l2PutB.l0
   repeat' first
   | (with_reducible exact ih0 _ _ _)
   | (with_reducible exact spec_l2Before.mono _ _ _)
   | (with_reducible exact l3_ _)
   | (with_reducible exact l0_ _)
   | (with_reducible refine l2_ ?_ ?_)
   | (with_reducible refine l1_ ?_ (fun _ => ?_))
   | exact ih0 _ _ _
   | exact spec_l2Before.mono _ _ _
   | exact l0_ _
   | refine l2_ ?_ ?_
   | refine l1_ ?_ (fun _ => ?_)
theorem spec_l2PutB.mono : ∀ a0 a1 k, LeO (spec_l2PutB.f k a0 a1) (spec_l2PutB.f (k + 1) a0 a1) := by
 intro a0 a1 k
 have ih0 := spec_l2PutB.mono_l k
 unfold spec_l2PutB.f
 repeat' first
   | (with_reducible exact ih0 _ _ _)
   | (with_reducible exact spec_l2Before.mono _ _ _)
   | (with_reducible exact l3_ _)
   | (with_reducible exact l0_ _)
   | (with_reducible refine l2_ ?_ ?_)
   | (with_reducible refine l1_ ?_ (fun _ => ?_))
   | exact ih0 _ _ _
   | exact spec_l2Before.mono _ _ _
   | exact l0_ _
   | refine l2_ ?_ ?_
   | refine l1_ ?_ (fun _ => ?_)
theorem spec_l2PutB.calls (k : Nat) (P0_ : Nat → Prop) (u9000_ : Value) (l0 : List ByteArray) (a1 : ByteArray) (r : List ByteArray) (w0 w : World) (hB : Below w0.heap.size w0 w) (ho0 : Kd.R Kd.string 9 w w0.heap.size P0_ u9000_ l0) (h : spec_l2PutB.f k l0 a1 = some r) :
  Calls Try.prog 59 #[u9000_, .string a1] w fun e w' => ∃ v0_ : Value, e = .returned (v0_) ∧ Kd.R Kd.string 9 w' w0.heap.size (fun k_ => (P0_ k_ ∨ w.heap.size ≤ k_)) v0_ r ∧ Below w0.heap.size w0 w' ∧ Kept w w' (fun k_ => P0_ k_) := by
 have HO0 := aM_ (show Kd.R Kd.string 9 w w0.heap.size (fun k_ => (P0_ k_ ∨ w.heap.size ≤ k_)) u9000_ l0 from kM_ ho0 (fun k_ hk => (.inl hk)))
 have HK := aM_ (Kept.refl w (fun k_ => P0_ k_))
 have HW0 := aM_ hB.size
 have HB := aM_ hB
 clear hB
 have H : (spec_l2PutB.l0 k l0 a1 0) = some r := h
 clear h
 have H' := aM_ H
 clear H
 go_enter Try.func59, Try.ntmps59
 go_wp2
 go_loopg [5] k (fun kq v5 w' => ∃ (x5_1 : Int), v5 = .int .i64 x5_1 ∧ Aside0 (spec_l2PutB.l0 kq l0 a1 x5_1 = some r) ∧ Aside0 (kq ≤ k) ∧ Aside0 (Kd.R Kd.string 9 w' w0.heap.size (fun k_ => (P0_ k_ ∨ w.heap.size ≤ k_)) u9000_ l0) ∧ Aside0 (Kept w w' (fun k_ => P0_ k_)) ∧ Aside0 (Below w0.heap.size w0 w'))
 case atStart => exact ⟨(0), (by rfl), H', ⟨Nat.le_refl _⟩, ⟨HO0.out⟩, ⟨by repeat (first | (with_reducible first | exact HK.out | apply Kept.alloc | apply Kept.drewN | apply Kept.drew) | exact HK.out)⟩, ⟨HB.out⟩⟩
 case round =>
  clear H'
  try clear p2
  obtain ⟨x5_1, rfl, HA, HK1, HO_0, HK, HB⟩ := hrel
  cases gk with
  | zero => exact absurd HA.out (by simp [spec_l2PutB.l0])
  | succ k1 =>
   have H := HA.out
   clear HA
   simp only [spec_l2PutB.l0] at H
   by_cases c3 : x5_1 < (l0.length : Int)
   ·
    rw [if_pos c3] at H
    have c3b0 := decide_eq_true c3
    clear c3
    by_cases c4 : 0 ≤ x5_1
    ·
     rw [if_pos c4] at H
     have c4b0 := decide_eq_true c4
     clear c4
     replace H := oB_.mp H
     obtain ⟨t141, A50, H⟩ := H
     try dsimp only at H
     have A5 := aM_ A50
     clear A50
     by_cases c6 : t141 = true
     ·
      subst c6
      rw [if_pos rfl] at H
      have H' := aM_ H
      clear H
      obtain ⟨Ao7, co7, eo7⟩ := kS_ HO_0.out
      subst eo7
      have p140 : 0 ≤ (x5_1 : Int) := of_decide_eq_true (by (with_reducible assumption))
      have q140 : x5_1 < (l0.length : Int) := of_decide_eq_true (by (with_reducible assumption))
      obtain ⟨ad140, e140, hx140_0⟩ := Kd.at_string (kR_ HO_0.out).2.2 x5_1 p140 q140
      cases e140
      replace p140 := eq_true p140
      replace q140 := eq_true q140
      go_wp2_with (first | (go_at_call 71; (with_reducible refine (spec_l2Before.calls k1 (rdOf eB_ l0 x5_1) a1 true _ A5.out).mono ?_); rintro e w' ⟨rfl, ⟨nd, rfl⟩⟩))
      go_roundg k1
      case measure => have := HK1.out; omega
      case rel => exact ⟨(wrap64 (x5_1 + 1)), (by rfl), H', ⟨by have := HK1.out; omega⟩, ⟨by (with_reducible repeat (first | apply k1_ | apply k2_ | apply k3_)); exact HO_0.out⟩, ⟨by repeat (first | (with_reducible first | exact HK.out | apply Kept.alloc | apply Kept.drewN | apply Kept.drew) | exact HK.out)⟩, ⟨by repeat (first | (with_reducible first | exact HB.out | apply bA_ | apply bN_ | apply bD_) | exact HB.out)⟩⟩
     ·
      replace c6 := Bool.eq_false_iff.mpr c6
      subst c6
      have H1 : (if (rdOf eB_ l0 x5_1).toList = a1.toList then (some l0) else (none)) = some r := by rw [if_neg (show ¬ (false = true) by decide)] at H; exact H
      clear H
      have H := H1
      clear H1
      by_cases c8 : (rdOf eB_ l0 x5_1).toList = a1.toList
      ·
       rw [if_pos c8] at H
       have c8b0 : ((rdOf eB_ l0 x5_1).toList == a1.toList) = true := beq_iff_eq.mpr c8
       have c8b1 : ((rdOf eB_ l0 x5_1).toList != a1.toList) = false := bne_eq_false_iff_eq.mpr c8
       clear c8
       obtain rfl := Option.some.inj H
       obtain ⟨Ao9, co9, eo9⟩ := kS_ HO_0.out
       subst eo9
       have p140 : 0 ≤ (x5_1 : Int) := of_decide_eq_true (by (with_reducible assumption))
       have q140 : x5_1 < (l0.length : Int) := of_decide_eq_true (by (with_reducible assumption))
       obtain ⟨ad140, e140, hx140_0⟩ := Kd.at_string (kR_ HO_0.out).2.2 x5_1 p140 q140
       cases e140
       replace p140 := eq_true p140
       replace q140 := eq_true q140
       go_wp2_with (first | (go_at_call 71; (with_reducible refine (spec_l2Before.calls k1 (rdOf eB_ l0 x5_1) a1 false _ A5.out).mono ?_); rintro e w' ⟨rfl, ⟨nd, rfl⟩⟩; have p142 : 0 ≤ (x5_1 : Int) := of_decide_eq_true (by (with_reducible assumption)); have q142 : x5_1 < (l0.length : Int) := of_decide_eq_true (by (with_reducible assumption)); obtain ⟨ad142, e142, hx142_0⟩ := Kd.at_string (kR_ HO_0.out).2.2 x5_1 p142 q142; obtain rfl : ad140 = ad142 := (by injection e142); replace p142 := eq_true p142; replace q142 := eq_true q142))
       go_ret
       exact ⟨_, by rfl, by (with_reducible repeat (first | apply k1_ | apply k2_ | apply k3_)); exact HO_0.out, by repeat (first | (with_reducible first | exact HB.out | apply bA_ | apply bN_ | apply bD_) | exact HB.out), by repeat (first | (with_reducible first | exact HK.out | apply Kept.alloc | apply Kept.drewN | apply Kept.drew) | exact HK.out)⟩
      ·
       rw [if_neg c8] at H
       exact absurd H (by simp)
    ·
     rw [if_neg c4] at H
     exact absurd H (by simp)
   ·
    rw [if_neg c3] at H
    have c3b0 := decide_eq_false c3
    clear c3
    exact absurd H (by simp)
open Go.Proofs.Ytnnkedeohfbkeaa.M
theorem spec_l2Put.before_loop (a b : Txt) (ha : a.length ≤ 4611686018427387900) : ∀ (d n : Nat), n + d = a.length → n ≤ b.length → Ev (fun k => spec_l2Before.l0 k (B a) (B b) (n : Int)) (decide (a.drop n < b.drop n)) := by
 have last : ∀ n : Nat, (n = a.length ∨ n = b.length) → n ≤ a.length → n ≤ b.length → Ev (fun k => spec_l2Before.j1 k (B a) (B b) (n : Int) false) (decide (a.drop n < b.drop n)) := by
  intro n h ha hb
  refine Ev.step (fun k => spec_l2Before.j1.eq_2 ..) (Ev.ifF (by simp) ?_)
  have : decide (((B a).size : Int) < ((B b).size : Int)) = decide (a.drop n < b.drop n) := by
   simp only [size_B]
   congr 1
   rcases h with rfl | rfl
   ·
    rw [List.drop_length]
    cases hd : b.drop a.length with
    | nil =>
     have : b.length ≤ a.length := by simpa using hd
     simp; omega
    | cons c t =>
     have : a.length < b.length := by
      have := congrArg List.length hd
      simp at this; omega
     simp; omega
   ·
    rw [List.drop_length]
    simp; omega
  rw [this]; exact Ev.now _
 intro d
 induction d with
 | zero =>
  intro n hn hb
  refine Ev.step (fun k => spec_l2Before.l0.eq_2 ..) (Ev.ifF (by simp; omega) ?_)
  exact last n (.inl (by omega)) (by omega) hb
 | succ d ih =>
  intro n hn hb
  have h1 : n < a.length := by omega
  refine Ev.step (fun k => spec_l2Before.l0.eq_2 ..) (Ev.ifT (by simp; omega) ?_)
  by_cases h2 : n < b.length
  ·
   rw [show decide ((n : Int) < ((B b).size : Int)) = true from by simp; omega]
   refine Ev.step (fun k => spec_l2Before.j1.eq_2 ..) (Ev.ifT rfl (Ev.ifT (by omega) (Ev.ifT (by simp; omega) (Ev.ifT (by simp; omega) ?_))))
   simp only [bt_B a n h1, bt_B b n h2]
   rw [drop_cons_getD 0 h1, drop_cons_getD 0 h2]
   by_cases e : ((a.getD n 0).toNat : Int) = ((b.getD n 0).toNat : Int)
   ·
    have e2 : a.getD n 0 = b.getD n 0 := UInt8.toNat_inj.1 (by omega)
    refine Ev.ifT e ?_
    have := ih (n + 1) (by omega) (by omega)
    simp only [e2, List.cons_lt_cons_iff, UInt8.lt_irrefl, true_and, false_or]
    simpa only [wrap64_succ n (by omega)] using this
   ·
    refine Ev.ifF e ?_
    have e2 : a.getD n 0 ≠ b.getD n 0 := fun h => e (by rw [h])
    have : decide (((a.getD n 0).toNat : Int) < ((b.getD n 0).toNat : Int)) = decide (a.getD n 0 :: a.drop (n + 1) < b.getD n 0 :: b.drop (n + 1)) := by
     congr 1
     simp only [List.cons_lt_cons_iff, e2, false_and, or_false, UInt8.lt_iff_toNat_lt, eq_iff_iff]
     omega
    rw [this]; exact Ev.now _
  ·
   rw [show decide ((n : Int) < ((B b).size : Int)) = false from by simp; omega]
   exact last n (.inr (by omega)) (by omega) hb
theorem spec_l2Put.before_ev (a b : Txt) (ha : a.length ≤ 4611686018427387900) : Ev (fun k => spec_l2Before.f k (B a) (B b)) (decide (a < b)) := by
 simpa [spec_l2Before.f] using spec_l2Put.before_loop a b ha a.length 0 (by omega) (by omega)
theorem spec_l2Put.own_eq (l : List ByteArray) (h : l.length < 8796093022208) : spec_l2Own.f l = some l := by
 unfold spec_l2Own.f
 simp only [Option.bind_some, List.length_nil, Nat.zero_add, if_pos h, List.nil_append]
def spec_l2Put.okL (l : List Txt) : Prop := l.length ≤ 4294967296 ∧ ∀ x ∈ l, x.length ≤ 4611686018427387900
theorem spec_l2Put.getD_ok {l : List Txt} (h : spec_l2Put.okL l) (n : Nat) (hn : n < l.length) : (l.getD n []).length ≤ 4611686018427387900 := by
 rw [getD_lt [] hn]; exact h.2 _ (List.getElem_mem hn)
theorem spec_l2Put.rd_map (l : List Txt) (n : Nat) (h : n < l.length) : rdOf eB_ (l.map B) (n : Int) = B (l.getD n []) := by
 simp [rdOf, List.getD_eq_getElem?_getD, h]
theorem spec_l2Put.A_loop (l : List Txt) (w : Txt) (ok : spec_l2Put.okL l) : ∀ (d n : Nat), n + d = l.length → foundL (l.drop n) w = false → Ev (fun k => spec_l2PutA.l0 k (l.map B) (B w) (n : Int)) ((l.take n ++ putL (l.drop n) w).map B) := by
 have hl := ok.1
 have fin : ∀ n, n ≤ l.length → ∀ (g : Nat → Option (List ByteArray)), (∀ k, g k = ((spec_l2Own.f ((l.map B).take (n : Int).toNat)).bind fun t1 => ((some (([B w] : List ByteArray) : List ByteArray)).bind fun y1 => (if t1.length + y1.length < 8796093022208 then ((some (t1 ++ y1 : List ByteArray)).bind fun y2 => (if y2.length + ((l.map B).drop (n : Int).toNat).length < 8796093022208 then (some (y2 ++ ((l.map B).drop (n : Int).toNat))) else (none))) else (none))))) → Ev g ((l.take n ++ w :: l.drop n).map B) := by
  intro n hn g hg
  refine Ev.congr hg ?_
  rw [spec_l2Put.own_eq _ (by simp; omega)]
  simp only [Option.bind_some]
  refine Ev.ifT (by simp; omega) (Ev.ifT (by simp; omega) ?_)
  simpa [List.map_take, List.map_drop] using Ev.now ((l.take n ++ w :: l.drop n).map B)
 intro d
 induction d with
 | zero =>
  intro n hn hf
  refine Ev.step (fun k => spec_l2PutA.l0.eq_2 ..) (Ev.ifF (by simp; omega) (Ev.ifT (by omega) (Ev.ifT (by simp; omega) ?_)))
  rw [show putL (l.drop n) w = w :: l.drop n from by rw [List.drop_of_length_le (by omega)]; rfl]
  exact fin n (by omega) _ (fun _ => rfl)
 | succ d ih =>
  intro n hn hf
  have h1 : n < l.length := by omega
  refine Ev.step (fun k => spec_l2PutA.l0.eq_2 ..) (Ev.ifT (by simp; omega) (Ev.ifT (by omega) ?_))
  simp only [spec_l2Put.rd_map l n h1]
  refine Ev.bind (spec_l2Put.before_ev (l.getD n []) w (spec_l2Put.getD_ok ok n h1)) ?_
  rw [drop_cons_getD [] h1] at hf ⊢
  by_cases hlt : l.getD n [] < w
  ·
   simp only [foundL, if_pos hlt] at hf
   refine Ev.ifT (by simpa using hlt) ?_
   have := ih (n + 1) (by omega) hf
   rw [take_succ_getD [] h1] at this
   simpa only [wrap64_succ n (by omega), putL, if_pos hlt, List.append_assoc, List.singleton_append] using this
  ·
   simp only [foundL, if_neg hlt, decide_eq_false_iff_not] at hf
   refine Ev.ifF (by simpa using hlt) (Ev.ifF (by simpa using hf) (Ev.ifT (by simp; omega) ?_))
   rw [show putL (l.getD n [] :: l.drop (n + 1)) w = w :: l.drop n from by rw [drop_cons_getD [] h1]; simp only [putL, if_neg hlt, if_neg hf]]
   exact fin n (by omega) _ (fun _ => rfl)
theorem spec_l2Put.B_loop (l : List Txt) (w : Txt) (ok : spec_l2Put.okL l) : ∀ (d n : Nat), n + d = l.length → foundL (l.drop n) w = true → Ev (fun k => spec_l2PutB.l0 k (l.map B) (B w) (n : Int)) (l.map B) := by
 have hl := ok.1
 intro d
 induction d with
 | zero => intro n hn hf; rw [List.drop_of_length_le (by omega)] at hf; simp [foundL] at hf
 | succ d ih =>
  intro n hn hf
  have h1 : n < l.length := by omega
  refine Ev.step (fun k => spec_l2PutB.l0.eq_2 ..) (Ev.ifT (by simp; omega) (Ev.ifT (by omega) ?_))
  simp only [spec_l2Put.rd_map l n h1]
  refine Ev.bind (spec_l2Put.before_ev (l.getD n []) w (spec_l2Put.getD_ok ok n h1)) ?_
  rw [drop_cons_getD [] h1] at hf
  by_cases hlt : l.getD n [] < w
  ·
   simp only [foundL, if_pos hlt] at hf
   refine Ev.ifT (by simpa using hlt) ?_
   simpa only [wrap64_succ n (by omega)] using ih (n + 1) (by omega) hf
  ·
   simp only [foundL, if_neg hlt, decide_eq_true_eq] at hf
   exact Ev.ifF (by simpa using hlt) (Ev.ifT (by simpa using hf) (Ev.now _))
def spec_l2Put.f (l0 : List ByteArray) (a1 : ByteArray) : Option (List ByteArray) := if l0.length ≤ 4294967296 ∧ (l0.all fun x => decide (x.size ≤ 4611686018427387900)) = true then some ((putL (l0.map fun x => x.data.toList) a1.data.toList).map B) else none
theorem spec_l2Put.calls (P0_ : Nat → Prop) (u9000_ : Value) (l0 : List ByteArray) (a1 : ByteArray) (r : List ByteArray) (w0 w : World) (hB : Below w0.heap.size w0 w) (ho0 : Kd.R Kd.string 9 w w0.heap.size P0_ u9000_ l0) (h : spec_l2Put.f l0 a1 = some r) :
  Calls Try.prog 59 #[u9000_, .string a1] w fun e w' => ∃ v0_ : Value, e = .returned (v0_) ∧ Kd.R Kd.string 9 w' w0.heap.size (fun k_ => (P0_ k_ ∨ w.heap.size ≤ k_)) v0_ r ∧ Below w0.heap.size w0 w' ∧ Kept w w' (fun k_ => P0_ k_) := by
 unfold spec_l2Put.f at h
 by_cases hc : l0.length ≤ 4294967296 ∧ (l0.all fun x => decide (x.size ≤ 4611686018427387900)) = true
 rotate_left
 ·
  rw [if_neg hc] at h; cases h
 rw [if_pos hc] at h
 obtain ⟨l, hl⟩ : ∃ l, l = l0.map fun x => x.data.toList := ⟨_, rfl⟩
 have e0 : l0 = l.map B := by
  rw [hl, List.map_map]
  conv => lhs; rw [← List.map_id l0]
  exact List.map_congr_left fun x _ => (B_data x).symm
 have e1 : a1 = B a1.data.toList := (B_data a1).symm
 have ok : spec_l2Put.okL l := by
  refine ⟨by rw [hl]; simpa using hc.1, fun x hx => ?_⟩
  rw [hl] at hx
  obtain ⟨y, hy, rfl⟩ := List.mem_map.1 hx
  have := List.all_eq_true.1 hc.2 y hy
  simpa using this
 rw [← hl] at h
 have hr := Option.some.inj h
 cases hf : foundL l a1.data.toList with
 | true =>
  obtain ⟨k, hk⟩ := Ev.rounds (spec_l2Put.B_loop l a1.data.toList ok l.length 0 (by omega) (by simpa using hf))
  refine spec_l2PutB.calls k P0_ u9000_ l0 a1 r w0 w hB ho0 ?_
  rw [← hr, putL_found l _ hf, e0, e1]
  unfold spec_l2PutB.f
  simpa using hk
 | false =>
  obtain ⟨k, hk⟩ := Ev.rounds (spec_l2Put.A_loop l a1.data.toList ok l.length 0 (by omega) (by simpa using hf))
  obtain ⟨A, c, rfl, hlc, hC⟩ := Kd.R_reads ho0
  refine (spec_l2PutA.calls k A c l0 a1 r w hC hlc ?_).mono ?_
  ·
   rw [← hr, e0, e1]
   unfold spec_l2PutA.f
   simpa using hk
  ·
   rintro e w' ⟨v, rfl, hR, hb⟩
   exact ⟨v, rfl, k5_ (kM_ (Kd.R_bound hR) (fun k hk => .inr hk.2.1)) hB.size, hB.trans (hb.mono hB.size), Kept.of_below hb _⟩
def spec_l2Set.l0 : Nat → List ByteArray → List ByteArray → Int → Option (List ByteArray × Bool)
 | 0, _, _, _ => none
 | k + 1, x0, x4, x5 => if x5 < (x0.length : Int) then (if 0 ≤ x5 then ((spec_l2Word.f k (rdOf eB_ x0 x5)).bind fun t147 => (if t147 = true then ((spec_l2Put.f x4 (rdOf eB_ x0 x5)).bind fun t149 => (spec_l2Set.l0 k x0 t149 (wrap64 (x5 + 1)))) else (some ((([] : List ByteArray)), false)))) else (none)) else (some (x4, decide ((x4.length : Int) ≤ 40)))
def spec_l2Set.f (k : Nat) (l0 : List ByteArray) : Option (List ByteArray × Bool) := spec_l2Set.l0 k l0 (([] : List ByteArray)) 0
theorem spec_l2Set.mono_l : ∀ k, (∀ y0 y1 y2, LeO (spec_l2Set.l0 k y0 y1 y2) (spec_l2Set.l0 (k + 1) y0 y1 y2))
 | 0 => fun _ _ _ r h => by simp [spec_l2Set.l0] at h
 | k + 1 => by
  have ih0 := spec_l2Set.mono_l k
  ·
   intro y0 y1 y2
   unfold spec_l2Set.l0
   repeat' first
   | (with_reducible exact ih0 _ _ _)
   | (with_reducible exact spec_l2Word.mono _ _)
   | (with_reducible exact l3_ _)
   | (with_reducible exact l0_ _)
   | (with_reducible refine l2_ ?_ ?_)
   | (with_reducible refine l1_ ?_ (fun _ => ?_))
   | exact ih0 _ _ _
   | exact spec_l2Word.mono _ _
   | exact l0_ _
   | refine l2_ ?_ ?_
   | refine l1_ ?_ (fun _ => ?_)
theorem spec_l2Set.mono : ∀ a0 k, LeO (spec_l2Set.f k a0) (spec_l2Set.f (k + 1) a0) := by
 intro a0 k
 have ih0 := spec_l2Set.mono_l k
 unfold spec_l2Set.f
 repeat' first
   | (with_reducible exact ih0 _ _ _)
   | (with_reducible exact spec_l2Word.mono _ _)
   | (with_reducible exact l3_ _)
   | (with_reducible exact l0_ _)
   | (with_reducible refine l2_ ?_ ?_)
   | (with_reducible refine l1_ ?_ (fun _ => ?_))
   | exact ih0 _ _ _
   | exact spec_l2Word.mono _ _
   | exact l0_ _
   | refine l2_ ?_ ?_
   | refine l1_ ?_ (fun _ => ?_)
theorem spec_l2Set.calls (k : Nat) (A0 : Option Addr) (c0 : Nat) (l0 : List ByteArray) (r1 : List ByteArray) (r2 : Bool) (w : World) (hr0 : Kd.C Kd.string w A0 l0.length l0) (hc0 : l0.length ≤ c0) (h : spec_l2Set.f k l0 = some (r1, r2)) :
  Calls Try.prog 42 #[.slice A0 l0.length c0] w fun e w' => ∃ v0_ : Value, e = .returned (.tuple #[v0_, .bool r2]) ∧ Kd.R Kd.string 9 w' w.heap.size (fun _ => True) v0_ r1 ∧ Below w.heap.size w w' := by
 have HR0 := aM_ hr0
 have HC0 := aM_ hc0
 clear hr0 hc0
 have HB := aM_ (Below.refl w.heap.size w)
 have H : (spec_l2Set.l0 k l0 (([] : List ByteArray)) 0) = some (r1, r2) := h
 clear h
 obtain ⟨y143, hy143⟩ : ∃ y_ : List ByteArray, y_ = (([] : List ByteArray)) := ⟨_, rfl⟩
 replace H : (spec_l2Set.l0 k l0 y143 0) = some (r1, r2) := by first | (rw [hy143]; with_reducible exact H) | (have H2_ := (Option.bind_some _ _).symm.trans H; rw [hy143]; with_reducible exact H2_) | (have H2_ := (Option.bind_some _ _).symm.trans H; with_reducible exact H2_) | with_reducible exact H | (rw [hy143]; exact H) | exact H
 have Ny143 := aM_ hy143
 clear hy143
 have H' := aM_ H
 clear H
 go_enter Try.func42, Try.ntmps42
 go_wp2_with (first | ((with_reducible refine gD_ (N := 6) rfl ?_); refine Kd.R_lit Kd.string _ 9 ?hg (N := 6) ?hd (xs := ([] : List ByteArray)) (inner := []) (ok := fun _ => True) (okp := fun _ => True) ?hr ?hp (fun _ hk => hk) trivial (Below.refl _ _) (Nat.le_refl _) (by simp) ?_; (case hd => rfl); (case hg => rfl); (case hr => (go_simp; done)); (case hp => exact (Reps.none _ _)); intro v144 w2 ho3 hb hg_ hnew_; clear hg_ hnew_; (rw [← Ny143.out] at ho3); have HO145 := aM_ (k5_ ho3 (bZ_ HB.out)); replace HB := aM_ (bT_ HB.out hb); clear hb ho3))
 go_loopg [4, 5] k (fun kq v4 v5 w' => ∃ (x4_1 : List ByteArray) (x5_1 : Int), v5 = .int .i64 x5_1 ∧ Aside0 (spec_l2Set.l0 kq l0 x4_1 x5_1 = some (r1, r2)) ∧ Aside0 (kq ≤ k) ∧ Aside0 (Kd.R Kd.string 9 w' w.heap.size (fun _ => True) v4 x4_1) ∧ Aside0 (Below w.heap.size w w'))
 case atStart => exact ⟨(y143), (0), (by rfl), H', ⟨Nat.le_refl _⟩, ⟨HO145.out⟩, ⟨HB.out⟩⟩
 case round =>
  clear H'
  try clear p2
  obtain ⟨x4_1, x5_1, rfl, HA, HK1, HO_4, HB⟩ := hrel
  cases gk with
  | zero => exact absurd HA.out (by simp [spec_l2Set.l0])
  | succ k1 =>
   have H := HA.out
   clear HA
   simp only [spec_l2Set.l0] at H
   by_cases c4 : x5_1 < (l0.length : Int)
   ·
    rw [if_pos c4] at H
    have c4b0 := decide_eq_true c4
    clear c4
    by_cases c5 : 0 ≤ x5_1
    ·
     rw [if_pos c5] at H
     have c5b0 := decide_eq_true c5
     clear c5
     replace H := oB_.mp H
     obtain ⟨t147, A60, H⟩ := H
     try dsimp only at H
     have A6 := aM_ A60
     clear A60
     by_cases c7 : t147 = true
     ·
      subst c7
      rw [if_pos rfl] at H
      replace H := oB_.mp H
      obtain ⟨t149, A80, H⟩ := H
      try dsimp only at H
      have A8 := aM_ A80
      clear A80
      have H' := aM_ H
      clear H
      have p146 : 0 ≤ (x5_1 : Int) := of_decide_eq_true (by (with_reducible assumption))
      have q146 : x5_1 < (l0.length : Int) := of_decide_eq_true (by (with_reducible assumption))
      obtain ⟨ad146, e146, hx146_0⟩ := Kd.at_string HR0.out x5_1 p146 q146
      cases e146
      replace hx146_0 := (HB.out.cell (wB_ w _ hx146_0)).trans hx146_0
      replace p146 := eq_true p146
      replace q146 := eq_true q146
      go_wp2_with (first | ((with_reducible refine gC_ (f := 58) rfl ?_); refine goesL_ (some 17) rfl rfl Try.func58 (by kernel_rfl) rfl #[.string (rdOf eB_ l0 x5_1)] rfl (by (try simp only [sD_, sE_, sF_]); rfl) ?_; (with_reducible refine (spec_l2Word.calls k1 (rdOf eB_ l0 x5_1) true _ A6.out).mono ?_); rintro e w' ⟨rfl, ⟨nd, rfl⟩⟩; refine ⟨_, rfl, ?_⟩; have p148 : 0 ≤ (x5_1 : Int) := of_decide_eq_true (by (with_reducible assumption)); have q148 : x5_1 < (l0.length : Int) := of_decide_eq_true (by (with_reducible assumption)); obtain ⟨ad148, e148, hx148_0⟩ := Kd.at_string HR0.out x5_1 p148 q148; obtain rfl : ad146 = ad148 := (by injection e148); replace hx148_0 := (HB.out.cell (wB_ w _ hx148_0)).trans hx148_0; replace p148 := eq_true p148; replace q148 := eq_true q148; obtain ⟨Ao9, co9, eo9⟩ := kS_ HO_4.out; subst eo9) | ((with_reducible refine gC_ (f := 59) rfl ?_); refine goesL_ (some 25) rfl rfl Try.func59 (by kernel_rfl) rfl #[.slice Ao9 x4_1.length co9, .string (rdOf eB_ l0 x5_1)] rfl (by (try simp only [sD_, sE_, sF_]); rfl) ?_; (with_reducible refine (spec_l2Put.calls (fun k_ => some k_ = (.slice Ao9 x4_1.length co9 : Value).ownBlock) (.slice Ao9 x4_1.length co9) x4_1 (rdOf eB_ l0 x5_1) t149 w _ ?side1 ?side2 A8.out).mono ?_); (case side1 => repeat (first | (with_reducible first | exact HB.out | apply bA_ | apply bN_ | apply bD_) | exact HB.out)); (case side2 => exact Kd.R_tight rfl HO_4.out); rintro e w10 ⟨v150, rfl, ho0, hb, hkp⟩; refine ⟨_, rfl, ?_⟩; have n0_ := aM_ (kM_ (ok' := fun k_ => True) ho0 (fun k_ hk_ => trivial)); have n1_ := aM_ (hb); clear HB; clear HO_4; have HO151 := n0_; have HB := n1_; clear n0_ n1_; (try clear hb); (try clear hkp); (try clear ho0)))
      go_roundg k1
      case measure => have := HK1.out; omega
      case rel => exact ⟨(t149), (wrap64 (x5_1 + 1)), (by rfl), H', ⟨by have := HK1.out; omega⟩, ⟨HO151.out⟩, ⟨HB.out⟩⟩
     ·
      replace c7 := Bool.eq_false_iff.mpr c7
      subst c7
      have H1 : (some ((([] : List ByteArray)), false)) = some (r1, r2) := by rw [if_neg (show ¬ (false = true) by decide)] at H; exact H
      clear H
      have H := H1
      clear H1
      obtain ⟨y152, hy152⟩ : ∃ y_ : List ByteArray, y_ = (([] : List ByteArray)) := ⟨_, rfl⟩
      replace H : (some (y152, false)) = some (r1, r2) := by first | (rw [hy152]; with_reducible exact H) | (have H2_ := (Option.bind_some _ _).symm.trans H; rw [hy152]; with_reducible exact H2_) | (have H2_ := (Option.bind_some _ _).symm.trans H; with_reducible exact H2_) | with_reducible exact H | (rw [hy152]; exact H) | exact H
      have Ny152 := aM_ hy152
      clear hy152
      simp only [Option.some.injEq, Prod.mk.injEq] at H
      obtain ⟨rfl, rfl⟩ := H
      have p146 : 0 ≤ (x5_1 : Int) := of_decide_eq_true (by (with_reducible assumption))
      have q146 : x5_1 < (l0.length : Int) := of_decide_eq_true (by (with_reducible assumption))
      obtain ⟨ad146, e146, hx146_0⟩ := Kd.at_string HR0.out x5_1 p146 q146
      cases e146
      replace hx146_0 := (HB.out.cell (wB_ w _ hx146_0)).trans hx146_0
      replace p146 := eq_true p146
      replace q146 := eq_true q146
      go_wp2_with (first | ((with_reducible refine gC_ (f := 58) rfl ?_); refine goesL_ (some 17) rfl rfl Try.func58 (by kernel_rfl) rfl #[.string (rdOf eB_ l0 x5_1)] rfl (by (try simp only [sD_, sE_, sF_]); rfl) ?_; (with_reducible refine (spec_l2Word.calls k1 (rdOf eB_ l0 x5_1) false _ A6.out).mono ?_); rintro e w' ⟨rfl, ⟨nd, rfl⟩⟩; refine ⟨_, rfl, ?_⟩) | ((with_reducible refine gD_ (N := 19) rfl ?_); refine Kd.R_lit Kd.string _ 9 ?hg (N := 19) ?hd (xs := ([] : List ByteArray)) (inner := []) (ok := fun _ => True) (okp := fun _ => True) ?hr ?hp (fun _ hk => hk) trivial (Below.refl _ _) (Nat.le_refl _) (by simp) ?_; (case hd => rfl); (case hg => rfl); (case hr => (go_simp; done)); (case hp => exact (Reps.none _ _)); intro v153 w11 ho12 hb hg_ hnew_; clear hg_ hnew_; (rw [← Ny152.out] at ho12); have HO154 := aM_ (k5_ (Kd.R_new' ho12 (Kd.R_lt (by (with_reducible repeat (first | apply k1_ | apply k2_ | apply k3_)); exact HO_4.out))) (bZ_ (by repeat (first | (with_reducible first | exact HB.out | apply bA_ | apply bN_ | apply bD_) | exact HB.out)))); replace HO_4 := aM_ (Kd.R_elder' (by (with_reducible repeat (first | apply k1_ | apply k2_ | apply k3_)); exact HO_4.out) (Kd.R_base ho12) hb); replace HB := aM_ (bT_ (by repeat (first | (with_reducible first | exact HB.out | apply bA_ | apply bN_ | apply bD_) | exact HB.out)) hb); clear hb ho12))
      go_ret2
      exact ⟨_, by rfl, by exact kM_ HO154.out (fun _ hk => trivial), by exact HB.out⟩
    ·
     rw [if_neg c5] at H
     exact absurd H (by simp)
   ·
    rw [if_neg c4] at H
    have c4b0 := decide_eq_false c4
    clear c4
    simp only [Option.some.injEq, Prod.mk.injEq] at H
    obtain ⟨rfl, rfl⟩ := H
    obtain ⟨Ao13, co13, eo13⟩ := kS_ HO_4.out
    subst eo13
    go_wp2
    go_ret2
    exact ⟨_, by rfl, by exact HO_4.out, by exact HB.out⟩
mutual
def spec_l2Of.l0 : Nat → List ByteArray → List ByteArray → Int → Option ((List (S65)))
 | 0, _, _, _ => none
 | k + 1, x0, x3, x4 => if x4 < (x0.length : Int) then (spec_l2Of.l1 k x0 x3 x4 1) else (spec_l2Of.l2 k x0 x3 0 (([] : List (S65))))
def spec_l2Of.l1 : Nat → List ByteArray → List ByteArray → Int → Int → Option ((List (S65)))
 | 0, _, _, _, _ => none
 | k + 1, x0, x3, x4, x5 => if 0 ≤ x4 then (if x4 < (x0.length : Int) then (if x5 ≤ ((rdOf eB_ x0 x4).size : Int) then (if 0 ≤ x5 then ((spec_l2Put.f x3 ((rdOf eB_ x0 x4).extract 0 (x5 : Int).toNat)).bind fun t183 => (spec_l2Of.l1 k x0 t183 x4 (wrap64 (x5 + 1)))) else (none)) else (spec_l2Of.l0 k x0 x3 (wrap64 (x4 + 1)))) else (none)) else (none)
def spec_l2Of.l2 : Nat → List ByteArray → List ByteArray → Int → List (S65) → Option ((List (S65)))
 | 0, _, _, _, _ => none
 | k + 1, x0, x3, x7, x190000 => if x7 < (x3.length : Int) then (if 0 ≤ x7 then ((spec_l2Has.f k x0 (rdOf eB_ x3 x7)).bind fun t191 => (if x7 > 0 then (if 0 ≤ (wrap64 (((rdOf eB_ x3 x7).size : Int) - 1)) then (if (wrap64 (((rdOf eB_ x3 x7).size : Int) - 1)) < ((rdOf eB_ x3 x7).size : Int) then (if (wrap64 (((rdOf eB_ x3 x7).size : Int) - 1)) ≤ ((rdOf eB_ x3 x7).size : Int) then ((spec_l2Place.f k x3 ((rdOf eB_ x3 x7).extract 0 ((wrap64 (((rdOf eB_ x3 x7).size : Int) - 1)) : Int).toNat)).bind fun t193 => (if x190000.length < 5864062014805 then (spec_l2Of.l2 k x0 x3 (wrap64 (x7 + 1)) (x190000 ++ [(⟨((bt (rdOf eB_ x3 x7) (wrap64 (((rdOf eB_ x3 x7).size : Int) - 1))) - 97) % 256, t193, t191⟩ : S65)])) else (none))) else (none)) else (none)) else (none)) else (if x190000.length < 5864062014805 then (spec_l2Of.l2 k x0 x3 (wrap64 (x7 + 1)) (x190000 ++ [(⟨(-1), (-1), t191⟩ : S65)])) else (none)))) else (none)) else (some x190000)
end
def spec_l2Of.f (k : Nat) (l0 : List ByteArray) : Option ((List (S65))) := spec_l2Of.l0 k l0 (([(⟨#[]⟩ : ByteArray)] : List ByteArray)) 0
theorem spec_l2Of.mono_l : ∀ k, (∀ y0 y1 y2, LeO (spec_l2Of.l0 k y0 y1 y2) (spec_l2Of.l0 (k + 1) y0 y1 y2)) ∧ (∀ y0 y1 y2 y3, LeO (spec_l2Of.l1 k y0 y1 y2 y3) (spec_l2Of.l1 (k + 1) y0 y1 y2 y3)) ∧ (∀ y0 y1 y2 y3, LeO (spec_l2Of.l2 k y0 y1 y2 y3) (spec_l2Of.l2 (k + 1) y0 y1 y2 y3))
 | 0 => ⟨fun _ _ _ r h => by simp [spec_l2Of.l0] at h, fun _ _ _ _ r h => by simp [spec_l2Of.l1] at h, fun _ _ _ _ r h => by simp [spec_l2Of.l2] at h⟩
 | k + 1 => by
  obtain ⟨ih0, ih1, ih2⟩ := spec_l2Of.mono_l k
  refine ⟨?_, ?_, ?_⟩
  ·
   intro y0 y1 y2
   unfold spec_l2Of.l0
   repeat' first
   | (with_reducible exact ih0 _ _ _)
   | (with_reducible exact ih1 _ _ _ _)
   | (with_reducible exact ih2 _ _ _ _)
   | (with_reducible exact spec_l2Has.mono _ _ _)
   | (with_reducible exact spec_l2Place.mono _ _ _)
   | (with_reducible exact l3_ _)
   | (with_reducible exact l0_ _)
   | (with_reducible refine l2_ ?_ ?_)
   | (with_reducible refine l1_ ?_ (fun _ => ?_))
   | exact ih0 _ _ _
   | exact ih1 _ _ _ _
   | exact ih2 _ _ _ _
   | exact spec_l2Has.mono _ _ _
   | exact spec_l2Place.mono _ _ _
   | exact l0_ _
   | refine l2_ ?_ ?_
   | refine l1_ ?_ (fun _ => ?_)
  ·
   intro y0 y1 y2 y3
   unfold spec_l2Of.l1
   repeat' first
   | (with_reducible exact ih0 _ _ _)
   | (with_reducible exact ih1 _ _ _ _)
   | (with_reducible exact ih2 _ _ _ _)
   | (with_reducible exact spec_l2Has.mono _ _ _)
   | (with_reducible exact spec_l2Place.mono _ _ _)
   | (with_reducible exact l3_ _)
   | (with_reducible exact l0_ _)
   | (with_reducible refine l2_ ?_ ?_)
   | (with_reducible refine l1_ ?_ (fun _ => ?_))
   | exact ih0 _ _ _
   | exact ih1 _ _ _ _
   | exact ih2 _ _ _ _
   | exact spec_l2Has.mono _ _ _
   | exact spec_l2Place.mono _ _ _
   | exact l0_ _
   | refine l2_ ?_ ?_
   | refine l1_ ?_ (fun _ => ?_)
  ·
   intro y0 y1 y2 y3
   unfold spec_l2Of.l2
   repeat' first
   | (with_reducible exact ih0 _ _ _)
   | (with_reducible exact ih1 _ _ _ _)
   | (with_reducible exact ih2 _ _ _ _)
   | (with_reducible exact spec_l2Has.mono _ _ _)
   | (with_reducible exact spec_l2Place.mono _ _ _)
   | (with_reducible exact l3_ _)
   | (with_reducible exact l0_ _)
   | (with_reducible refine l2_ ?_ ?_)
   | (with_reducible refine l1_ ?_ (fun _ => ?_))
   | exact ih0 _ _ _
   | exact ih1 _ _ _ _
   | exact ih2 _ _ _ _
   | exact spec_l2Has.mono _ _ _
   | exact spec_l2Place.mono _ _ _
   | exact l0_ _
   | refine l2_ ?_ ?_
   | refine l1_ ?_ (fun _ => ?_)
theorem spec_l2Of.mono : ∀ a0 k, LeO (spec_l2Of.f k a0) (spec_l2Of.f (k + 1) a0) := by
 intro a0 k
 obtain ⟨ih0, ih1, ih2⟩ := spec_l2Of.mono_l k
 unfold spec_l2Of.f
 repeat' first
   | (with_reducible exact ih0 _ _ _)
   | (with_reducible exact ih1 _ _ _ _)
   | (with_reducible exact ih2 _ _ _ _)
   | (with_reducible exact spec_l2Has.mono _ _ _)
   | (with_reducible exact spec_l2Place.mono _ _ _)
   | (with_reducible exact l3_ _)
   | (with_reducible exact l0_ _)
   | (with_reducible refine l2_ ?_ ?_)
   | (with_reducible refine l1_ ?_ (fun _ => ?_))
   | exact ih0 _ _ _
   | exact ih1 _ _ _ _
   | exact ih2 _ _ _ _
   | exact spec_l2Has.mono _ _ _
   | exact spec_l2Place.mono _ _ _
   | exact l0_ _
   | refine l2_ ?_ ?_
   | refine l1_ ?_ (fun _ => ?_)
theorem spec_l2Of.calls (k : Nat) (A0 : Option Addr) (c0 : Nat) (l0 : List ByteArray) (r : List (S65)) (w : World) (hr0 : Kd.C Kd.string w A0 l0.length l0) (hc0 : l0.length ≤ c0) (h : spec_l2Of.f k l0 = some r) :
  Calls Try.prog 45 #[.slice A0 l0.length c0] w fun e w' => ∃ v0_ : Value, e = .returned (.agg #[v0_]) ∧ Kd.R k65 65 w' w.heap.size (fun _ => True) v0_ r ∧ Below w.heap.size w w' := by
 have hu30 := Try.underlying30
 have hu65 := Try.underlying65
 have HR0 := aM_ hr0
 have HC0 := aM_ hc0
 clear hr0 hc0
 have HB := aM_ (Below.refl w.heap.size w)
 have H : (spec_l2Of.l0 k l0 (([(⟨#[]⟩ : ByteArray)] : List ByteArray)) 0) = some r := h
 clear h
 obtain ⟨y178, hy178⟩ : ∃ y_ : List ByteArray, y_ = (([(⟨#[]⟩ : ByteArray)] : List ByteArray)) := ⟨_, rfl⟩
 replace H : (spec_l2Of.l0 k l0 y178 0) = some r := by first | (rw [hy178]; with_reducible exact H) | (have H2_ := (Option.bind_some _ _).symm.trans H; rw [hy178]; with_reducible exact H2_) | (have H2_ := (Option.bind_some _ _).symm.trans H; with_reducible exact H2_) | with_reducible exact H | (rw [hy178]; exact H) | exact H
 have Ny178 := aM_ hy178
 clear hy178
 have H' := aM_ H
 clear H
 go_enter Try.func45, Try.ntmps45
 go_wp2_with (first | ((with_reducible refine gD_ (N := 2) rfl ?_); refine bE_ ?hg (N := 2) ?hd (cs := #[.slice none 0 0]) (t := 30) ?hr ?_; (case hd => rfl); (case hg => rfl); (case hr => (go_simp; done)); intro gb177 hg w2 hbox hb; have BK177 := aM_ (hbox); have GW177 := aM_ ((by rw [hg]; exact (bZ_ HB.out) : w.heap.size ≤ gb177)); have GE177 := GW177; replace HB := aM_ (bT_ HB.out hb); clear hb hbox hg) | ((with_reducible refine gD_ (N := 10) rfl ?_); refine Kd.R_lit Kd.string _ 9 ?hg (N := 10) ?hd (xs := ([(⟨#[]⟩ : ByteArray)] : List ByteArray)) (inner := [.string (⟨#[]⟩ : ByteArray)]) (ok := fun _ => True) (okp := fun _ => True) ?hr ?hp (fun _ hk => hk) trivial (Below.refl _ _) (Nat.le_refl _) (by simp) ?_; (case hd => rfl); (case hg => rfl); (case hr => (go_simp; done)); (case hp => exact (Reps.one (show Kd.M Kd.string _ _ _ (⟨#[]⟩ : ByteArray) [.string (⟨#[]⟩ : ByteArray)] from rfl) (Reps.none _ _))); intro v179 w3 ho4 hb hg_ hnew_; clear hg_ hnew_; (rw [← Ny178.out] at ho4); have HO180 := aM_ (k5_ ho4 (bZ_ HB.out)); replace BK177 := aM_ (bB_ BK177.out hb); replace HB := aM_ (bT_ HB.out hb); clear hb ho4))
 go_loopg [3, 4] k (fun kq v3 v4 w' => ∃ (x3_1 : List ByteArray) (x4_1 : Int), v4 = .int .i64 x4_1 ∧ Aside0 (spec_l2Of.l0 kq l0 x3_1 x4_1 = some r) ∧ Aside0 (kq ≤ k) ∧ Aside0 (Kd.R Kd.string 9 w' w.heap.size (fun _ => True) v3 x3_1) ∧ Aside0 (w'.heap[gb177]? = some (.cells #[(.slice none 0 0)] 30 (0, 0))) ∧ Aside0 (Below w.heap.size w w'))
 case atStart => exact ⟨(y178), (0), (by rfl), H', ⟨Nat.le_refl _⟩, ⟨HO180.out⟩, ⟨BK177.out⟩, ⟨HB.out⟩⟩
 case round =>
  clear H'
  try clear p2
  obtain ⟨x3_1, x4_1, rfl, HA, HK1, HO_3, BK177, HB⟩ := hrel
  cases gk with
  | zero => exact absurd HA.out (by simp [spec_l2Of.l0])
  | succ k1 =>
   have H := HA.out
   clear HA
   simp only [spec_l2Of.l0] at H
   by_cases c5 : x4_1 < (l0.length : Int)
   ·
    rw [if_pos c5] at H
    have c5b0 := decide_eq_true c5
    clear c5
    have H' := aM_ H
    clear H
    go_wp2
    go_loopg [3, 5] k1 (fun kq v3 v5 w' => ∃ (x3_2 : List ByteArray) (x5_2 : Int), v5 = .int .i64 x5_2 ∧ Aside0 (spec_l2Of.l1 kq l0 x3_2 x4_1 x5_2 = some r) ∧ Aside0 (kq ≤ k1) ∧ Aside0 (Kd.R Kd.string 9 w' w.heap.size (fun _ => True) v3 x3_2) ∧ Aside0 (w'.heap[gb177]? = some (.cells #[(.slice none 0 0)] 30 (0, 0))) ∧ Aside0 (Below w.heap.size w w'))
    case atStart => exact ⟨(x3_1), (1), (by rfl), H', ⟨Nat.le_refl _⟩, ⟨HO_3.out⟩, ⟨BK177.out⟩, ⟨HB.out⟩⟩
    case round =>
     clear H'
     try clear p2
     try clear c5b0
     try clear p2
     obtain ⟨x3_2, x5_2, rfl, HA, HK2, HO_3, BK177, HB⟩ := hrel
     cases gk with
     | zero => exact absurd HA.out (by simp [spec_l2Of.l1])
     | succ k2 =>
      have H := HA.out
      clear HA
      simp only [spec_l2Of.l1] at H
      by_cases c6 : 0 ≤ x4_1
      ·
       rw [if_pos c6] at H
       have c6b0 := decide_eq_true c6
       clear c6
       by_cases c7 : x4_1 < (l0.length : Int)
       ·
        rw [if_pos c7] at H
        have c7b0 := decide_eq_true c7
        clear c7
        by_cases c8 : x5_2 ≤ ((rdOf eB_ l0 x4_1).size : Int)
        ·
         rw [if_pos c8] at H
         have c8b0 := decide_eq_true c8
         clear c8
         by_cases c9 : 0 ≤ x5_2
         ·
          rw [if_pos c9] at H
          have c9b0 := eq_true c9
          have c9b1 := decide_eq_true c9
          clear c9
          have c10b0 := eq_true (of_decide_eq_true (by (with_reducible assumption)) : x5_2 ≤ ((rdOf eB_ l0 x4_1).size : Int))
          replace H := oB_.mp H
          obtain ⟨t183, A110, H⟩ := H
          try dsimp only at H
          have A11 := aM_ A110
          clear A110
          have H' := aM_ H
          clear H
          have p181 : 0 ≤ (x4_1 : Int) := of_decide_eq_true (by (with_reducible assumption))
          have q181 : x4_1 < (l0.length : Int) := of_decide_eq_true (by (with_reducible assumption))
          obtain ⟨ad181, e181, hx181_0⟩ := Kd.at_string HR0.out x4_1 p181 q181
          cases e181
          replace hx181_0 := (HB.out.cell (wB_ w _ hx181_0)).trans hx181_0
          replace p181 := eq_true p181
          replace q181 := eq_true q181
          have p182 : 0 ≤ (x4_1 : Int) := of_decide_eq_true (by (with_reducible assumption))
          have q182 : x4_1 < (l0.length : Int) := of_decide_eq_true (by (with_reducible assumption))
          obtain ⟨ad182, e182, hx182_0⟩ := Kd.at_string HR0.out x4_1 p182 q182
          obtain rfl : ad181 = ad182 := (by injection e182)
          replace hx182_0 := (HB.out.cell (wB_ w _ hx182_0)).trans hx182_0
          replace p182 := eq_true p182
          replace q182 := eq_true q182
          obtain ⟨Ao12, co12, eo12⟩ := kS_ HO_3.out
          subst eo12
          go_wp2_with (first | ((with_reducible refine gC_ (f := 59) rfl ?_); refine goesL_ (some 33) rfl rfl Try.func59 (by kernel_rfl) rfl #[.slice Ao12 x3_2.length co12, .string ((rdOf eB_ l0 x4_1).extract 0 (x5_2 : Int).toNat)] rfl (by (try simp only [sD_, sE_, sF_]); rfl) ?_; (with_reducible refine (spec_l2Put.calls (fun k_ => some k_ = (.slice Ao12 x3_2.length co12 : Value).ownBlock) (.slice Ao12 x3_2.length co12) x3_2 ((rdOf eB_ l0 x4_1).extract 0 (x5_2 : Int).toNat) t183 w _ ?side1 ?side2 A11.out).mono ?_); (case side1 => exact HB.out); (case side2 => exact Kd.R_tight rfl HO_3.out); rintro e w13 ⟨v184, rfl, ho0, hb, hkp⟩; refine ⟨_, rfl, ?_⟩; have n0_ := aM_ (blk_kept BK177.out hkp (fun hs_ => (fun e_ => (k6_ HO_3.out BK177.out (by decide)) e_) hs_)); have n1_ := aM_ (kM_ (ok' := fun k_ => True) ho0 (fun k_ hk_ => trivial)); have n2_ := aM_ (hb); clear BK177; clear HB; clear HO_3; have BK177 := n0_; have HO185 := n1_; have HB := n2_; clear n0_ n1_ n2_; (try clear hb); (try clear hkp); (try clear ho0)))
          go_roundg k2
          case measure => have := HK1.out; have := HK2.out; omega
          case rel => exact ⟨(t183), (wrap64 (x5_2 + 1)), (by rfl), H', ⟨by have := HK1.out; have := HK2.out; omega⟩, ⟨HO185.out⟩, ⟨BK177.out⟩, ⟨HB.out⟩⟩
         ·
          rw [if_neg c9] at H
          exact absurd H (by simp)
        ·
         rw [if_neg c8] at H
         have c8b0 := decide_eq_false c8
         clear c8
         have H' := aM_ H
         clear H
         have p181 : 0 ≤ (x4_1 : Int) := of_decide_eq_true (by (with_reducible assumption))
         have q181 : x4_1 < (l0.length : Int) := of_decide_eq_true (by (with_reducible assumption))
         obtain ⟨ad181, e181, hx181_0⟩ := Kd.at_string HR0.out x4_1 p181 q181
         cases e181
         replace hx181_0 := (HB.out.cell (wB_ w _ hx181_0)).trans hx181_0
         replace p181 := eq_true p181
         replace q181 := eq_true q181
         go_wp2
         go_roundg k2
         case measure => have := HK1.out; have := HK2.out; omega
         case rel => exact ⟨(x3_2), (wrap64 (x4_1 + 1)), (by rfl), H', ⟨by have := HK1.out; have := HK2.out; omega⟩, ⟨HO_3.out⟩, ⟨BK177.out⟩, ⟨HB.out⟩⟩
       ·
        rw [if_neg c7] at H
        exact absurd H (by simp)
      ·
       rw [if_neg c6] at H
       exact absurd H (by simp)
   ·
    rw [if_neg c5] at H
    have c5b0 := decide_eq_false c5
    clear c5
    obtain ⟨y186, hy186⟩ : ∃ y_ : List (S65), y_ = (([] : List (S65))) := ⟨_, rfl⟩
    replace H : (spec_l2Of.l2 k1 l0 x3_1 0 y186) = some r := by first | (rw [hy186]; with_reducible exact H) | (have H2_ := (Option.bind_some _ _).symm.trans H; rw [hy186]; with_reducible exact H2_) | (have H2_ := (Option.bind_some _ _).symm.trans H; with_reducible exact H2_) | with_reducible exact H | (rw [hy186]; exact H) | exact H
    have Ny186 := aM_ hy186
    clear hy186
    have H' := aM_ H
    clear H
    go_wp2_with (first | ((with_reducible refine gD_ (N := 34) rfl ?_); refine Kd.R_lit k65 _ 65 ?hg (N := 34) ?hd (xs := ([] : List (S65))) (inner := []) (ok := fun _ => True) (okp := fun _ => True) ?hr ?hp (fun _ hk => hk) trivial (Below.refl _ _) (Nat.le_refl _) (by simp) ?_; (case hd => rfl); (case hg => rfl); (case hr => (go_simp; done)); (case hp => exact (Reps.none _ _)); intro v187 w14 ho15 hb hg_ hnew_; clear hg_ hnew_; (rw [← Ny186.out] at ho15); replace HO_3 := aM_ (kB_ HO_3.out hb); have HO188 := aM_ (k5_ ho15 (bZ_ HB.out)); replace BK177 := aM_ (bB_ BK177.out hb); replace HB := aM_ (bT_ HB.out hb); clear hb ho15; obtain ⟨Ao16, co16, eo16⟩ := kS_ HO188.out; subst eo16) | ((with_reducible refine gD_ (N := 6) rfl ?_); refine bE_ ?hg (N := 6) ?hd (cs := #[.slice none 0 0]) (t := 30) ?hr ?_; (case hd => rfl); (case hg => rfl); (case hr => (go_simp; done)); intro gb189 hg w17 hbox hb; replace HO_3 := aM_ (kB_ HO_3.out hb); replace HO188 := aM_ (kB_ HO188.out hb); have BK189 := aM_ (hbox); have GW189 := aM_ ((by rw [hg]; exact (bZ_ HB.out) : w.heap.size ≤ gb189)); have GE189 := GW189; replace HB := aM_ (bT_ HB.out hb); have NB177_189 := aM_ ((by rw [hg]; exact Nat.ne_of_lt (bL_ BK177.out) : gb177 ≠ gb189)); have NB189_177 := aM_ NB177_189.out.symm; replace BK177 := aM_ (bB_ BK177.out hb); clear hb hbox hg; have hnb18 := NB189_177.out; have hnc18 := NB177_189.out; have hcz19_0 : w17.cell? ⟨gb189, 0, none⟩ = some (.slice none 0 0) := (bC_ BK189.out 0).trans rfl; have hfz19_0 := bF_ BK189.out 0))
    go_loopg [7] k1 (fun kq v7 w' => ∃ (x7_2 : Int) (x190000_2 : List (S65)) (u190000 : Value), v7 = .int .i64 x7_2 ∧ Aside0 (spec_l2Of.l2 kq l0 x3_1 x7_2 x190000_2 = some r) ∧ Aside0 (kq ≤ k1) ∧ Aside0 (Kd.R Kd.string 9 w' w.heap.size (fun _ => True) u3 x3_1) ∧ Aside0 (Kd.R k65 65 w' w.heap.size (fun _ => True) u190000 x190000_2) ∧ Aside0 (w'.heap[gb177]? = some (.cells #[(.slice none 0 0)] 30 (0, 0))) ∧ Aside0 (w'.heap[gb189]? = some (.cells #[u190000] 30 (0, 0))) ∧ Aside0 (Below w.heap.size w w'))
    case atStart => exact ⟨(0), (y186), (.slice Ao16 y186.length co16), (by rfl), H', ⟨Nat.le_refl _⟩, ⟨by exact kM_ (kF_ (p := ⟨gb189, 0, none⟩) (kT_ HO_3.out BK189.out (by decide)) (fun _ hk => hk.2) (.slice Ao16 y186.length co16)) (fun _ hk => trivial)⟩, ⟨by exact kM_ (kF_ (p := ⟨gb189, 0, none⟩) (kT_ HO188.out BK189.out (by decide)) (fun _ hk => hk.2) (.slice Ao16 y186.length co16)) (fun _ hk => trivial)⟩, ⟨by refine bR_ ?_ NB177_189.out _; exact BK177.out⟩, ⟨by refine bP_ (cs := #[.slice none 0 0]) ?_ 0 _ rfl; exact BK189.out⟩, ⟨by repeat (first | (with_reducible first | exact HB.out | apply bA_ | apply bN_ | apply bD_ | refine bS_ ?_ GE177.out | refine bS_ ?_ GE189.out) | exact HB.out)⟩⟩
    case round =>
     clear H'
     try clear p1
     try clear q1
     try clear hx1
     try clear p2
     try clear c5b0
     try clear c6b0
     try clear p6
     try clear c7b0
     try clear c8b0
     try clear c9b0
     try clear c9b1
     try clear c10b0
     try clear p18
     try clear q18
     try clear hx18
     try clear hcz19_0
     try clear hfz19_0
     try clear hx181_0
     try clear hx182_0
     try clear p181
     try clear p182
     try clear p2
     try clear q181
     try clear q182
     obtain ⟨x7_2, x190000_2, u190000, rfl, HA, HK2, HO_3, HO_190000, BK177, BK189, HB⟩ := hrel
     cases gk with
     | zero => exact absurd HA.out (by simp [spec_l2Of.l2])
     | succ k2 =>
      have H := HA.out
      clear HA
      simp only [spec_l2Of.l2] at H
      by_cases c20 : x7_2 < (x3_1.length : Int)
      ·
       rw [if_pos c20] at H
       have c20b0 := decide_eq_true c20
       clear c20
       by_cases c21 : 0 ≤ x7_2
       ·
        rw [if_pos c21] at H
        have c21b0 := decide_eq_true c21
        clear c21
        replace H := oB_.mp H
        obtain ⟨t191, A220, H⟩ := H
        try dsimp only at H
        have A22 := aM_ A220
        clear A220
        by_cases c23 : x7_2 > 0
        ·
         rw [if_pos c23] at H
         have c23b0 := decide_eq_true c23
         clear c23
         obtain ⟨ji24, hji24⟩ : ∃ j_ : Int, (wrap64 (((rdOf eB_ x3_1 x7_2).size : Int) - 1)) = j_ := ⟨_, rfl⟩
         replace H : (if 0 ≤ (ji24) then (if (ji24) < ((rdOf eB_ x3_1 x7_2).size : Int) then (if (ji24) ≤ ((rdOf eB_ x3_1 x7_2).size : Int) then ((spec_l2Place.f k2 x3_1 ((rdOf eB_ x3_1 x7_2).extract 0 ((ji24) : Int).toNat)).bind fun t193 => (if x190000_2.length < 5864062014805 then (spec_l2Of.l2 k2 l0 x3_1 (wrap64 (x7_2 + 1)) (x190000_2 ++ [(⟨((bt (rdOf eB_ x3_1 x7_2) (ji24)) - 97) % 256, t193, t191⟩ : S65)])) else (none))) else (none)) else (none)) else (none)) = some r := by first | (rw [hji24] at H; exact H) | (simp only [hji24] at H ⊢; exact H)
         (try rw [hji24] at A22)
         have hji24w : (IntKind.i64.wrap (((rdOf eB_ x3_1 x7_2).size : Int) - 1)) = ji24 := (i6_ _).trans hji24
         by_cases c25 : 0 ≤ (ji24)
         ·
          rw [if_pos c25] at H
          have c25b0 := decide_eq_true c25
          clear c25
          by_cases c26 : (ji24) < ((rdOf eB_ x3_1 x7_2).size : Int)
          ·
           rw [if_pos c26] at H
           have c26b0 := decide_eq_true c26
           clear c26
           have c28b0 := eq_true (of_decide_eq_true (by (with_reducible assumption)) : 0 ≤ (ji24))
           by_cases c29 : (ji24) ≤ ((rdOf eB_ x3_1 x7_2).size : Int)
           ·
            rw [if_pos c29] at H
            have c29b0 := eq_true c29
            have c29b1 := decide_eq_true c29
            clear c29
            replace H := oB_.mp H
            obtain ⟨t193, A300, H⟩ := H
            try dsimp only at H
            have A30 := aM_ A300
            clear A300
            by_cases c31 : x190000_2.length < 5864062014805
            ·
             rw [if_pos c31] at H
             have LMc31 := aM_ c31
             clear c31
             obtain ⟨y194, hy194⟩ : ∃ y_ : List (S65), y_ = (x190000_2 ++ [(⟨((bt (rdOf eB_ x3_1 x7_2) (ji24)) - 97) % 256, t193, t191⟩ : S65)]) := ⟨_, rfl⟩
             replace H : (spec_l2Of.l2 k2 l0 x3_1 (wrap64 (x7_2 + 1)) y194) = some r := by first | (rw [hy194]; with_reducible exact H) | (have H2_ := (Option.bind_some _ _).symm.trans H; rw [hy194]; with_reducible exact H2_) | (have H2_ := (Option.bind_some _ _).symm.trans H; with_reducible exact H2_) | with_reducible exact H | (rw [hy194]; exact H) | exact H
             have Ny194 := aM_ hy194
             clear hy194
             have H' := aM_ H
             clear H
             obtain ⟨Ao32, co32, eo32⟩ := kS_ HO_3.out
             subst eo32
             have p190 : 0 ≤ (x7_2 : Int) := of_decide_eq_true (by (with_reducible assumption))
             have q190 : x7_2 < (x3_1.length : Int) := of_decide_eq_true (by (with_reducible assumption))
             obtain ⟨ad190, e190, hx190_0⟩ := Kd.at_string (kR_ HO_3.out).2.2 x7_2 p190 q190
             cases e190
             replace p190 := eq_true p190
             replace q190 := eq_true q190
             go_wp2_with (first | ((with_reducible refine gC_ (f := 61) rfl ?_); refine goesL_ (some 48) rfl rfl Try.func61 (by kernel_rfl) rfl #[.slice A0 l0.length c0, .string (rdOf eB_ x3_1 x7_2)] rfl (by (try simp only [sD_, sE_, sF_]); rfl) ?_; (with_reducible refine (spec_l2Has.calls k2 _ _ l0 (rdOf eB_ x3_1 x7_2) t191 _ ?side1 ?side2 A22.out).mono ?_); (case side1 => repeat (first | exact (k4_ HR0.out HB.out) | (with_reducible refine Kd.C_alloc ?_ _) | (with_reducible refine Kd.C_drewN ?_ _) | (with_reducible refine Kd.C_drew ?_))); (case side2 => exact HC0.out); rintro e w' ⟨rfl, ⟨nd, rfl⟩⟩; refine ⟨_, rfl, ?_⟩; (try (rw [drewN_self wr]; generalize hq_ : World.drewN wr _ = wr; have n0_ : Aside0 (Kd.R k65 65 wr w.heap.size (fun _ => True) u190000 x190000_2) := ⟨by rw [← hq_]; exact (by (with_reducible repeat (first | apply k1_ | apply k2_ | apply k3_)); exact HO_190000.out)⟩; have n1_ : Aside0 (Kd.R Kd.string 9 wr w.heap.size (fun _ => True) (.slice (some ad190) x3_1.length co32) x3_1) := ⟨by rw [← hq_]; exact (by (with_reducible repeat (first | apply k1_ | apply k2_ | apply k3_)); exact HO_3.out)⟩; have n2_ : Aside0 (wr.heap[gb177]? = some (.cells #[.slice none 0 0] 30 (0, 0))) := ⟨by rw [← hq_]; exact (by (with_reducible repeat (first | refine b2_ ?_ _ | refine b1_ ?_ | refine b3_ ?_ _)); exact BK177.out)⟩; have n3_ : Aside0 (wr.heap[gb189]? = some (.cells #[u190000] 30 (0, 0))) := ⟨by rw [← hq_]; exact (by (with_reducible repeat (first | refine b2_ ?_ _ | refine b1_ ?_ | refine b3_ ?_ _)); exact BK189.out)⟩; have n4_ : Aside0 (Below w.heap.size w wr) := ⟨by rw [← hq_]; exact (by repeat (first | (with_reducible first | exact HB.out | apply bA_ | apply bN_ | apply bD_ | refine bS_ ?_ GE177.out | refine bS_ ?_ GE189.out) | exact HB.out))⟩; clear HO_190000 HO_3 BK177 BK189 HB hq_; have HO_190000 := n0_; have HO_3 := n1_; have BK177 := n2_; have BK189 := n3_; have HB := n4_; clear n0_ n1_ n2_ n3_ n4_))) | ((with_reducible refine gD_ (N := 9) rfl ?_); refine bE_ ?hg (N := 9) ?hd (cs := #[.int .i64 0, .int .i64 0, .bool false]) (t := 65) ?hr ?_; (case hd => rfl); (case hg => rfl); (case hr => (go_simp; done)); intro gb192 hg w33 hbox hb; replace HO_3 := aM_ (kB_ HO_3.out hb); replace HO_190000 := aM_ (kB_ (Kd.R_elderB HO_190000.out gb192 (Nat.le_of_eq hg.symm)) hb); have BK192 := aM_ (hbox); have GW192 := aM_ ((by rw [hg]; exact (bZ_ HB.out) : w.heap.size ≤ gb192)); have GE192 := GW192; replace HB := aM_ (bT_ HB.out hb); have NB177_192 := aM_ ((by rw [hg]; exact Nat.ne_of_lt (bL_ BK177.out) : gb177 ≠ gb192)); have NB192_177 := aM_ NB177_192.out.symm; replace BK177 := aM_ (bB_ BK177.out hb); have NB189_192 := aM_ ((by rw [hg]; exact Nat.ne_of_lt (bL_ BK189.out) : gb189 ≠ gb192)); have NB192_189 := aM_ NB189_192.out.symm; replace BK189 := aM_ (bB_ BK189.out hb); clear hb hbox hg; have hnb34 := NB192_177.out; have hnc34 := NB177_192.out; have hnb35 := NB192_189.out; have hnc35 := NB189_192.out; have hcz36_0 : w33.cell? ⟨gb192, 0, none⟩ = some (.int .i64 0) := (bC_ BK192.out 0).trans rfl; have hcz36_1 : w33.cell? ⟨gb192, 1, none⟩ = some (.int .i64 0) := (bC_ BK192.out 1).trans rfl; have hcz36_2 : w33.cell? ⟨gb192, 2, none⟩ = some (.bool false) := (bC_ BK192.out 2).trans rfl; have hfz36_0 := bF_ BK192.out 0; have hfz36_1 := bF_ BK192.out 1; have hfz36_2 := bF_ BK192.out 2; have p27 : 0 ≤ ((ji24) : Int) := of_decide_eq_true (by (with_reducible assumption)); have q27 : (ji24) < ((rdOf eB_ x3_1 x7_2).size : Int) := of_decide_eq_true (by (with_reducible assumption)); have hx27 := bt_at (rdOf eB_ x3_1 x7_2) (ji24); replace p27 := eq_true p27; replace q27 := eq_true q27) | ((with_reducible refine gC_ (f := 62) rfl ?_); refine goesL_ (some 66) rfl rfl Try.func62 (by kernel_rfl) rfl #[.slice (some ad190) x3_1.length co32, .string ((rdOf eB_ x3_1 x7_2).extract 0 ((ji24) : Int).toNat)] rfl (by (try simp only [sD_, sE_, sF_]); rfl) ?_; (with_reducible refine (spec_l2Place.calls k2 _ _ x3_1 ((rdOf eB_ x3_1 x7_2).extract 0 ((ji24) : Int).toNat) t193 _ ?side1 ?side2 A30.out).mono ?_); (case side1 => refine (kR_ (e := 9) (base := w.heap.size) (ok := fun k_ => True) (n := x3_1.length) (c := co32) ?_).2.2; exact (by exact (kM_ (kF_ (p := ⟨gb192, 0, none⟩) (kF_ (p := ⟨gb192, 2, none⟩) (kF_ (p := ⟨gb192, 1, none⟩) (kF_ (p := ⟨gb192, 0, none⟩) (kT_ HO_3.out BK192.out (by decide)) (fun _ hk => hk.2) (.int .i64 (-1))) (fun _ hk => hk.2) (.int .i64 (-1))) (fun _ hk => hk.2) (.bool t191)) (fun _ hk => hk.2) (.int .i64 (((bt (rdOf eB_ x3_1 x7_2) (ji24)) - 97) % 256))) (fun _ h_ => h_.1)))); (case side2 => exact (kR_ HO_3.out).2.1); rintro e w' ⟨rfl, ⟨nd, rfl⟩⟩; refine ⟨_, rfl, ?_⟩; have m0_ : Aside0 (Kd.R Kd.string 9 (((((w33.setCell ⟨gb192, 0, none⟩ (.int .i64 (-1))).setCell ⟨gb192, 1, none⟩ (.int .i64 (-1))).setCell ⟨gb192, 2, none⟩ (.bool t191)).setCell ⟨gb192, 0, none⟩ (.int .i64 (((bt (rdOf eB_ x3_1 x7_2) (ji24)) - 97) % 256))).drewN nd) w.heap.size (fun _ => True) (.slice (some ad190) x3_1.length co32) x3_1) := ⟨by (with_reducible repeat (first | apply k1_ | apply k2_ | apply k3_)); exact kM_ (kF_ (p := ⟨gb192, 0, none⟩) (kF_ (p := ⟨gb192, 2, none⟩) (kF_ (p := ⟨gb192, 1, none⟩) (kF_ (p := ⟨gb192, 0, none⟩) (kT_ HO_3.out BK192.out (by decide)) (fun _ hk => hk.2) (.int .i64 (-1))) (fun _ hk => hk.2) (.int .i64 (-1))) (fun _ hk => hk.2) (.bool t191)) (fun _ hk => hk.2) (.int .i64 (((bt (rdOf eB_ x3_1 x7_2) (ji24)) - 97) % 256))) (fun _ _ => trivial)⟩; have m1_ : Aside0 (Kd.R k65 65 (((((w33.setCell ⟨gb192, 0, none⟩ (.int .i64 (-1))).setCell ⟨gb192, 1, none⟩ (.int .i64 (-1))).setCell ⟨gb192, 2, none⟩ (.bool t191)).setCell ⟨gb192, 0, none⟩ (.int .i64 (((bt (rdOf eB_ x3_1 x7_2) (ji24)) - 97) % 256))).drewN nd) w.heap.size (fun k_ => True ∧ k_ ≠ gb192) u190000 x190000_2) := ⟨by (with_reducible repeat (first | apply k1_ | apply k2_ | apply k3_)); exact kM_ (kF_ (p := ⟨gb192, 0, none⟩) (kF_ (p := ⟨gb192, 2, none⟩) (kF_ (p := ⟨gb192, 1, none⟩) (kF_ (p := ⟨gb192, 0, none⟩) (kM_ HO_190000.out (fun k_ hk => (⟨hk, hk.2⟩ : _ ∧ k_ ≠ gb192))) (fun _ hk => hk.2) (.int .i64 (-1))) (fun _ hk => hk.2) (.int .i64 (-1))) (fun _ hk => hk.2) (.bool t191)) (fun _ hk => hk.2) (.int .i64 (((bt (rdOf eB_ x3_1 x7_2) (ji24)) - 97) % 256))) (fun _ hk => ⟨trivial, hk.2⟩)⟩; have m2_ : Aside0 ((((((w33.setCell ⟨gb192, 0, none⟩ (.int .i64 (-1))).setCell ⟨gb192, 1, none⟩ (.int .i64 (-1))).setCell ⟨gb192, 2, none⟩ (.bool t191)).setCell ⟨gb192, 0, none⟩ (.int .i64 (((bt (rdOf eB_ x3_1 x7_2) (ji24)) - 97) % 256))).drewN nd).heap[gb177]? = some (.cells #[.slice none 0 0] 30 (0, 0))) := ⟨by (with_reducible repeat (first | refine b2_ ?_ _ | refine b1_ ?_ | refine b3_ ?_ _)); refine bR_ ?_ NB177_192.out _; refine bR_ ?_ NB177_192.out _; refine bR_ ?_ NB177_192.out _; refine bR_ ?_ NB177_192.out _; exact BK177.out⟩; have m3_ : Aside0 ((((((w33.setCell ⟨gb192, 0, none⟩ (.int .i64 (-1))).setCell ⟨gb192, 1, none⟩ (.int .i64 (-1))).setCell ⟨gb192, 2, none⟩ (.bool t191)).setCell ⟨gb192, 0, none⟩ (.int .i64 (((bt (rdOf eB_ x3_1 x7_2) (ji24)) - 97) % 256))).drewN nd).heap[gb189]? = some (.cells #[u190000] 30 (0, 0))) := ⟨by (with_reducible repeat (first | refine b2_ ?_ _ | refine b1_ ?_ | refine b3_ ?_ _)); refine bR_ ?_ NB189_192.out _; refine bR_ ?_ NB189_192.out _; refine bR_ ?_ NB189_192.out _; refine bR_ ?_ NB189_192.out _; exact BK189.out⟩; have m4_ : Aside0 ((((((w33.setCell ⟨gb192, 0, none⟩ (.int .i64 (-1))).setCell ⟨gb192, 1, none⟩ (.int .i64 (-1))).setCell ⟨gb192, 2, none⟩ (.bool t191)).setCell ⟨gb192, 0, none⟩ (.int .i64 (((bt (rdOf eB_ x3_1 x7_2) (ji24)) - 97) % 256))).drewN nd).heap[gb192]? = some (.cells #[.int .i64 (((bt (rdOf eB_ x3_1 x7_2) (ji24)) - 97) % 256), .int .i64 (-1), .bool t191] 65 (0, 0))) := ⟨by (with_reducible repeat (first | refine b2_ ?_ _ | refine b1_ ?_ | refine b3_ ?_ _)); refine bP_ (cs := #[.int .i64 (-1), .int .i64 (-1), .bool t191]) ?_ 0 _ rfl; refine bP_ (cs := #[.int .i64 (-1), .int .i64 (-1), .bool false]) ?_ 2 _ rfl; refine bP_ (cs := #[.int .i64 (-1), .int .i64 0, .bool false]) ?_ 1 _ rfl; refine bP_ (cs := #[.int .i64 0, .int .i64 0, .bool false]) ?_ 0 _ rfl; exact BK192.out⟩; have m5_ : Aside0 (Below w.heap.size w (((((w33.setCell ⟨gb192, 0, none⟩ (.int .i64 (-1))).setCell ⟨gb192, 1, none⟩ (.int .i64 (-1))).setCell ⟨gb192, 2, none⟩ (.bool t191)).setCell ⟨gb192, 0, none⟩ (.int .i64 (((bt (rdOf eB_ x3_1 x7_2) (ji24)) - 97) % 256))).drewN nd)) := ⟨by repeat (first | (with_reducible first | exact HB.out | apply bA_ | apply bN_ | apply bD_ | refine bS_ ?_ GE177.out | refine bS_ ?_ GE189.out | refine bS_ ?_ GE192.out) | exact HB.out)⟩; clear HO_3 HO_190000 BK177 BK189 BK192 HB; generalize (((((w33.setCell ⟨gb192, 0, none⟩ (.int .i64 (-1))).setCell ⟨gb192, 1, none⟩ (.int .i64 (-1))).setCell ⟨gb192, 2, none⟩ (.bool t191)).setCell ⟨gb192, 0, none⟩ (.int .i64 (((bt (rdOf eB_ x3_1 x7_2) (ji24)) - 97) % 256))).drewN nd) = w339 at m0_ m1_ m2_ m3_ m4_ m5_ ⊢; have HO_3 := m0_; have HO_190000 := m1_; have BK177 := m2_; have BK189 := m3_; have BK192 := m4_; have HB := m5_; clear m0_ m1_ m2_ m3_ m4_ m5_; have hczz_0 : w339.cell? ⟨gb192, 0, none⟩ = some (.int .i64 (((bt (rdOf eB_ x3_1 x7_2) (ji24)) - 97) % 256)) := (bC_ BK192.out 0).trans rfl; have hfzz_0 := bF_ BK192.out 0; have hczz_1 : w339.cell? ⟨gb192, 1, none⟩ = some (.int .i64 (-1)) := (bC_ BK192.out 1).trans rfl; have hfzz_1 := bF_ BK192.out 1; have hczz_2 : w339.cell? ⟨gb192, 2, none⟩ = some (.bool t191) := (bC_ BK192.out 2).trans rfl; have hfzz_2 := bF_ BK192.out 2; have hnb37 := NB189_177.out; have hnc37 := NB177_189.out; have hcz38_0 : w339.cell? ⟨gb189, 0, none⟩ = some (u190000) := (bC_ BK189.out 0).trans rfl; have hfz38_0 := bF_ BK189.out 0) | ((with_reducible refine gate_builtin (b := .append) (xs := #[.tmp 69, .tmp 71]) rfl ?_); at_builtin; refine Kd.R_append k65 (w0 := w) w.heap.size rfl (.tmp 69) (.tmp 71) 28 65 (.agg #[(.int .i64 0), (.int .i64 0), (.bool false)]) 24 rfl Try.underlying28 info65 rfl (by decide) (by omega) u190000 x190000_2 (⟨((bt (rdOf eB_ x3_1 x7_2) (ji24)) - 97) % 256, t193, t191⟩ : S65) [.int .i64 (((bt (rdOf eB_ x3_1 x7_2) (ji24)) - 97) % 256), .int .i64 t193, .bool t191] (fun k_ => k_ ≠ gb192) (fun _ => False) rfl (by (go_simp; done)) ?aP (fun _ hk => hk.elim) ?aF ?aO ?aB ?aS ?aL ?_; (case aP => exact k65_mkM _ _ _ (⟨((bt (rdOf eB_ x3_1 x7_2) (ji24)) - 97) % 256, t193, t191⟩ : S65)); (case aB => exact (by repeat (first | (with_reducible first | exact HB.out | apply bA_ | apply bN_ | apply bD_ | refine bS_ ?_ GE177.out | refine bS_ ?_ GE189.out | refine bS_ ?_ GE192.out) | exact HB.out))); (case aF => exact (fun k_ hk => Kd.freshB (g := gb192) (o := .cells #[.int .i64 (((bt (rdOf eB_ x3_1 x7_2) (ji24)) - 97) % 256), .int .i64 t193, .bool t191] 65 (0, 0)) (by refine bP_ (cs := #[.int .i64 (((bt (rdOf eB_ x3_1 x7_2) (ji24)) - 97) % 256), .int .i64 (-1), .bool t191]) ?_ 1 _ rfl; exact BK192.out) k_ hk)); (case aO => exact (by exact kM_ (kF_ (p := ⟨gb192, 1, none⟩) (kM_ HO_190000.out (fun k_ hk => (⟨hk, hk.2⟩ : _ ∧ k_ ≠ gb192))) (fun _ hk => hk.2) (.int .i64 t193)) (fun _ hk => hk.1.2))); (case aS => exact (bZ_ (by repeat (first | (with_reducible first | exact HB.out | apply bA_ | apply bN_ | apply bD_ | refine bS_ ?_ GE177.out | refine bS_ ?_ GE189.out | refine bS_ ?_ GE192.out) | exact HB.out)))); (case aL => have := LMc31.out; omega); intro v195 w39 ho hb hg hat; rw [← Ny194.out] at ho; have n0_ := aM_ (Kd.R_over' (by exact (kM_ (kF_ (p := ⟨gb192, 1, none⟩) (kT_ HO_3.out BK192.out (by decide)) (fun _ hk => hk.2) (.int .i64 t193)) (fun _ h_ => h_.1))) (Kd.R_typed (by exact (kM_ (kF_ (p := ⟨gb192, 1, none⟩) (kM_ HO_190000.out (fun k_ hk => (⟨hk, hk.2⟩ : _ ∧ k_ ≠ gb192))) (fun _ hk => hk.2) (.int .i64 t193)) (fun _ h_ => h_.1)))) (by decide) hg); have n1_ := aM_ (blk_grown (g := gb177) (o := .cells #[.slice none 0 0] 30 (0, 0)) (by refine bR_ ?_ NB177_192.out _; exact BK177.out) hg (k6_ HO_190000.out BK177.out (by decide))); have n2_ := aM_ (blk_grown (g := gb189) (o := .cells #[u190000] 30 (0, 0)) (by refine bR_ ?_ NB189_192.out _; exact BK189.out) hg (k6_ HO_190000.out BK189.out (by decide))); have n3_ := aM_ (blk_grown (g := gb192) (o := .cells #[.int .i64 (((bt (rdOf eB_ x3_1 x7_2) (ji24)) - 97) % 256), .int .i64 t193, .bool t191] 65 (0, 0)) (by refine bP_ (cs := #[.int .i64 (((bt (rdOf eB_ x3_1 x7_2) (ji24)) - 97) % 256), .int .i64 (-1), .bool t191]) ?_ 1 _ rfl; exact BK192.out) hg (Kd.R_away HO_190000.out (fun _ hk => hk.2))); have n4_ := aM_ (hb); have n5_ := aM_ (ho); clear HO_3; clear BK177; clear BK189; clear BK192; clear HB; clear HO_190000; have HO_3 := n0_; have BK177 := n1_; have BK189 := n2_; have BK192 := n3_; have HB := n4_; have HO196 := n5_; clear n0_ n1_ n2_ n3_ n4_ n5_; clear ho hb hg hat; obtain ⟨Ao40, co40, eo40⟩ := kS_ HO196.out; subst eo40; have hcz41_0 : w39.cell? ⟨gb189, 0, none⟩ = some (u190000) := (bC_ BK189.out 0).trans rfl; have hfz41_0 := bF_ BK189.out 0))
             go_roundg k2
             case measure => have := HK1.out; have := HK2.out; omega
             case rel => exact ⟨(wrap64 (x7_2 + 1)), (y194), (.slice Ao40 y194.length co40), (by rfl), H', ⟨by have := HK1.out; have := HK2.out; omega⟩, ⟨by exact kM_ (kF_ (p := ⟨gb189, 0, none⟩) (kT_ HO_3.out BK189.out (by decide)) (fun _ hk => hk.2) (.slice Ao40 y194.length co40)) (fun _ hk => trivial)⟩, ⟨by exact kM_ (kF_ (p := ⟨gb189, 0, none⟩) (kT_ HO196.out BK189.out (by decide)) (fun _ hk => hk.2) (.slice Ao40 y194.length co40)) (fun _ hk => trivial)⟩, ⟨by refine bR_ ?_ NB177_189.out _; exact BK177.out⟩, ⟨by refine bP_ (cs := #[u190000]) ?_ 0 _ rfl; exact BK189.out⟩, ⟨by repeat (first | (with_reducible first | exact HB.out | apply bA_ | apply bN_ | apply bD_ | refine bS_ ?_ GE177.out | refine bS_ ?_ GE189.out | refine bS_ ?_ GE192.out) | exact HB.out)⟩⟩
            ·
             rw [if_neg c31] at H
             exact absurd H (by simp)
           ·
            rw [if_neg c29] at H
            exact absurd H (by simp)
          ·
           rw [if_neg c26] at H
           exact absurd H (by simp)
         ·
          rw [if_neg c25] at H
          exact absurd H (by simp)
        ·
         rw [if_neg c23] at H
         have c23b0 := decide_eq_false c23
         clear c23
         by_cases c42 : x190000_2.length < 5864062014805
         ·
          rw [if_pos c42] at H
          have LMc42 := aM_ c42
          clear c42
          obtain ⟨y197, hy197⟩ : ∃ y_ : List (S65), y_ = (x190000_2 ++ [(⟨(-1), (-1), t191⟩ : S65)]) := ⟨_, rfl⟩
          replace H : (spec_l2Of.l2 k2 l0 x3_1 (wrap64 (x7_2 + 1)) y197) = some r := by first | (rw [hy197]; with_reducible exact H) | (have H2_ := (Option.bind_some _ _).symm.trans H; rw [hy197]; with_reducible exact H2_) | (have H2_ := (Option.bind_some _ _).symm.trans H; with_reducible exact H2_) | with_reducible exact H | (rw [hy197]; exact H) | exact H
          have Ny197 := aM_ hy197
          clear hy197
          have H' := aM_ H
          clear H
          obtain ⟨Ao43, co43, eo43⟩ := kS_ HO_3.out
          subst eo43
          have p190 : 0 ≤ (x7_2 : Int) := of_decide_eq_true (by (with_reducible assumption))
          have q190 : x7_2 < (x3_1.length : Int) := of_decide_eq_true (by (with_reducible assumption))
          obtain ⟨ad190, e190, hx190_0⟩ := Kd.at_string (kR_ HO_3.out).2.2 x7_2 p190 q190
          cases e190
          replace p190 := eq_true p190
          replace q190 := eq_true q190
          go_wp2_with (first | ((with_reducible refine gC_ (f := 61) rfl ?_); refine goesL_ (some 48) rfl rfl Try.func61 (by kernel_rfl) rfl #[.slice A0 l0.length c0, .string (rdOf eB_ x3_1 x7_2)] rfl (by (try simp only [sD_, sE_, sF_]); rfl) ?_; (with_reducible refine (spec_l2Has.calls k2 _ _ l0 (rdOf eB_ x3_1 x7_2) t191 _ ?side1 ?side2 A22.out).mono ?_); (case side1 => repeat (first | exact (k4_ HR0.out HB.out) | (with_reducible refine Kd.C_alloc ?_ _) | (with_reducible refine Kd.C_drewN ?_ _) | (with_reducible refine Kd.C_drew ?_))); (case side2 => exact HC0.out); rintro e w' ⟨rfl, ⟨nd, rfl⟩⟩; refine ⟨_, rfl, ?_⟩; (try (rw [drewN_self wr]; generalize hq_ : World.drewN wr _ = wr; have n0_ : Aside0 (Kd.R k65 65 wr w.heap.size (fun _ => True) u190000 x190000_2) := ⟨by rw [← hq_]; exact (by (with_reducible repeat (first | apply k1_ | apply k2_ | apply k3_)); exact HO_190000.out)⟩; have n1_ : Aside0 (Kd.R Kd.string 9 wr w.heap.size (fun _ => True) (.slice (some ad190) x3_1.length co43) x3_1) := ⟨by rw [← hq_]; exact (by (with_reducible repeat (first | apply k1_ | apply k2_ | apply k3_)); exact HO_3.out)⟩; have n2_ : Aside0 (wr.heap[gb177]? = some (.cells #[.slice none 0 0] 30 (0, 0))) := ⟨by rw [← hq_]; exact (by (with_reducible repeat (first | refine b2_ ?_ _ | refine b1_ ?_ | refine b3_ ?_ _)); exact BK177.out)⟩; have n3_ : Aside0 (wr.heap[gb189]? = some (.cells #[u190000] 30 (0, 0))) := ⟨by rw [← hq_]; exact (by (with_reducible repeat (first | refine b2_ ?_ _ | refine b1_ ?_ | refine b3_ ?_ _)); exact BK189.out)⟩; have n4_ : Aside0 (Below w.heap.size w wr) := ⟨by rw [← hq_]; exact (by repeat (first | (with_reducible first | exact HB.out | apply bA_ | apply bN_ | apply bD_ | refine bS_ ?_ GE177.out | refine bS_ ?_ GE189.out) | exact HB.out))⟩; clear HO_190000 HO_3 BK177 BK189 HB hq_; have HO_190000 := n0_; have HO_3 := n1_; have BK177 := n2_; have BK189 := n3_; have HB := n4_; clear n0_ n1_ n2_ n3_ n4_))) | ((with_reducible refine gD_ (N := 9) rfl ?_); refine bE_ ?hg (N := 9) ?hd (cs := #[.int .i64 0, .int .i64 0, .bool false]) (t := 65) ?hr ?_; (case hd => rfl); (case hg => rfl); (case hr => (go_simp; done)); intro gb192 hg w44 hbox hb; replace HO_3 := aM_ (kB_ HO_3.out hb); replace HO_190000 := aM_ (kB_ (Kd.R_elderB HO_190000.out gb192 (Nat.le_of_eq hg.symm)) hb); have BK192 := aM_ (hbox); have GW192 := aM_ ((by rw [hg]; exact (bZ_ HB.out) : w.heap.size ≤ gb192)); have GE192 := GW192; replace HB := aM_ (bT_ HB.out hb); have NB177_192 := aM_ ((by rw [hg]; exact Nat.ne_of_lt (bL_ BK177.out) : gb177 ≠ gb192)); have NB192_177 := aM_ NB177_192.out.symm; replace BK177 := aM_ (bB_ BK177.out hb); have NB189_192 := aM_ ((by rw [hg]; exact Nat.ne_of_lt (bL_ BK189.out) : gb189 ≠ gb192)); have NB192_189 := aM_ NB189_192.out.symm; replace BK189 := aM_ (bB_ BK189.out hb); clear hb hbox hg; have hnb45 := NB192_177.out; have hnc45 := NB177_192.out; have hnb46 := NB192_189.out; have hnc46 := NB189_192.out; have hcz47_0 : w44.cell? ⟨gb192, 0, none⟩ = some (.int .i64 0) := (bC_ BK192.out 0).trans rfl; have hcz47_1 : w44.cell? ⟨gb192, 1, none⟩ = some (.int .i64 0) := (bC_ BK192.out 1).trans rfl; have hcz47_2 : w44.cell? ⟨gb192, 2, none⟩ = some (.bool false) := (bC_ BK192.out 2).trans rfl; have hfz47_0 := bF_ BK192.out 0; have hfz47_1 := bF_ BK192.out 1; have hfz47_2 := bF_ BK192.out 2; have hnb48 := NB189_177.out; have hnc48 := NB177_189.out; have hcz49_0 : w44.cell? ⟨gb189, 0, none⟩ = some (u190000) := (bC_ BK189.out 0).trans rfl; have hfz49_0 := bF_ BK189.out 0) | ((with_reducible refine gate_builtin (b := .append) (xs := #[.tmp 69, .tmp 71]) rfl ?_); at_builtin; refine Kd.R_append k65 (w0 := w) w.heap.size rfl (.tmp 69) (.tmp 71) 28 65 (.agg #[(.int .i64 0), (.int .i64 0), (.bool false)]) 24 rfl Try.underlying28 info65 rfl (by decide) (by omega) u190000 x190000_2 (⟨(-1), (-1), t191⟩ : S65) [.int .i64 (-1), .int .i64 (-1), .bool t191] (fun k_ => k_ ≠ gb192) (fun _ => False) rfl (by (go_simp; done)) ?aP (fun _ hk => hk.elim) ?aF ?aO ?aB ?aS ?aL ?_; (case aP => exact k65_mkM _ _ _ (⟨(-1), (-1), t191⟩ : S65)); (case aB => exact (by repeat (first | (with_reducible first | exact HB.out | apply bA_ | apply bN_ | apply bD_ | refine bS_ ?_ GE177.out | refine bS_ ?_ GE189.out | refine bS_ ?_ GE192.out) | exact HB.out))); (case aF => exact (fun k_ hk => Kd.freshB (g := gb192) (o := .cells #[.int .i64 (-1), .int .i64 (-1), .bool t191] 65 (0, 0)) (by refine bP_ (cs := #[.int .i64 (-1), .int .i64 (-1), .bool false]) ?_ 2 _ rfl; refine bP_ (cs := #[.int .i64 (-1), .int .i64 0, .bool false]) ?_ 1 _ rfl; refine bP_ (cs := #[.int .i64 0, .int .i64 0, .bool false]) ?_ 0 _ rfl; exact BK192.out) k_ hk)); (case aO => exact (by exact kM_ (kF_ (p := ⟨gb192, 2, none⟩) (kF_ (p := ⟨gb192, 1, none⟩) (kF_ (p := ⟨gb192, 0, none⟩) (kM_ HO_190000.out (fun k_ hk => (⟨hk, hk.2⟩ : _ ∧ k_ ≠ gb192))) (fun _ hk => hk.2) (.int .i64 (-1))) (fun _ hk => hk.2) (.int .i64 (-1))) (fun _ hk => hk.2) (.bool t191)) (fun _ hk => hk.1.2))); (case aS => exact (bZ_ (by repeat (first | (with_reducible first | exact HB.out | apply bA_ | apply bN_ | apply bD_ | refine bS_ ?_ GE177.out | refine bS_ ?_ GE189.out | refine bS_ ?_ GE192.out) | exact HB.out)))); (case aL => have := LMc42.out; omega); intro v198 w50 ho hb hg hat; rw [← Ny197.out] at ho; have n0_ := aM_ (Kd.R_over' (by exact (kM_ (kF_ (p := ⟨gb192, 2, none⟩) (kF_ (p := ⟨gb192, 1, none⟩) (kF_ (p := ⟨gb192, 0, none⟩) (kT_ HO_3.out BK192.out (by decide)) (fun _ hk => hk.2) (.int .i64 (-1))) (fun _ hk => hk.2) (.int .i64 (-1))) (fun _ hk => hk.2) (.bool t191)) (fun _ h_ => h_.1))) (Kd.R_typed (by exact (kM_ (kF_ (p := ⟨gb192, 2, none⟩) (kF_ (p := ⟨gb192, 1, none⟩) (kF_ (p := ⟨gb192, 0, none⟩) (kM_ HO_190000.out (fun k_ hk => (⟨hk, hk.2⟩ : _ ∧ k_ ≠ gb192))) (fun _ hk => hk.2) (.int .i64 (-1))) (fun _ hk => hk.2) (.int .i64 (-1))) (fun _ hk => hk.2) (.bool t191)) (fun _ h_ => h_.1)))) (by decide) hg); have n1_ := aM_ (blk_grown (g := gb177) (o := .cells #[.slice none 0 0] 30 (0, 0)) (by refine bR_ ?_ NB177_192.out _; refine bR_ ?_ NB177_192.out _; refine bR_ ?_ NB177_192.out _; exact BK177.out) hg (k6_ HO_190000.out BK177.out (by decide))); have n2_ := aM_ (blk_grown (g := gb189) (o := .cells #[u190000] 30 (0, 0)) (by refine bR_ ?_ NB189_192.out _; refine bR_ ?_ NB189_192.out _; refine bR_ ?_ NB189_192.out _; exact BK189.out) hg (k6_ HO_190000.out BK189.out (by decide))); have n3_ := aM_ (blk_grown (g := gb192) (o := .cells #[.int .i64 (-1), .int .i64 (-1), .bool t191] 65 (0, 0)) (by refine bP_ (cs := #[.int .i64 (-1), .int .i64 (-1), .bool false]) ?_ 2 _ rfl; refine bP_ (cs := #[.int .i64 (-1), .int .i64 0, .bool false]) ?_ 1 _ rfl; refine bP_ (cs := #[.int .i64 0, .int .i64 0, .bool false]) ?_ 0 _ rfl; exact BK192.out) hg (Kd.R_away HO_190000.out (fun _ hk => hk.2))); have n4_ := aM_ (hb); have n5_ := aM_ (ho); clear HO_3; clear BK177; clear BK189; clear BK192; clear HB; clear HO_190000; have HO_3 := n0_; have BK177 := n1_; have BK189 := n2_; have BK192 := n3_; have HB := n4_; have HO199 := n5_; clear n0_ n1_ n2_ n3_ n4_ n5_; clear ho hb hg hat; obtain ⟨Ao51, co51, eo51⟩ := kS_ HO199.out; subst eo51; have hcz52_0 : w50.cell? ⟨gb189, 0, none⟩ = some (u190000) := (bC_ BK189.out 0).trans rfl; have hfz52_0 := bF_ BK189.out 0))
          go_roundg k2
          case measure => have := HK1.out; have := HK2.out; omega
          case rel => exact ⟨(wrap64 (x7_2 + 1)), (y197), (.slice Ao51 y197.length co51), (by rfl), H', ⟨by have := HK1.out; have := HK2.out; omega⟩, ⟨by exact kM_ (kF_ (p := ⟨gb189, 0, none⟩) (kT_ HO_3.out BK189.out (by decide)) (fun _ hk => hk.2) (.slice Ao51 y197.length co51)) (fun _ hk => trivial)⟩, ⟨by exact kM_ (kF_ (p := ⟨gb189, 0, none⟩) (kT_ HO199.out BK189.out (by decide)) (fun _ hk => hk.2) (.slice Ao51 y197.length co51)) (fun _ hk => trivial)⟩, ⟨by refine bR_ ?_ NB177_189.out _; exact BK177.out⟩, ⟨by refine bP_ (cs := #[u190000]) ?_ 0 _ rfl; exact BK189.out⟩, ⟨by repeat (first | (with_reducible first | exact HB.out | apply bA_ | apply bN_ | apply bD_ | refine bS_ ?_ GE177.out | refine bS_ ?_ GE189.out | refine bS_ ?_ GE192.out) | exact HB.out)⟩⟩
         ·
          rw [if_neg c42] at H
          exact absurd H (by simp)
       ·
        rw [if_neg c21] at H
        exact absurd H (by simp)
      ·
       rw [if_neg c20] at H
       have c20b0 := decide_eq_false c20
       clear c20
       obtain rfl := Option.some.inj H
       obtain ⟨Ao53, co53, eo53⟩ := kS_ HO_3.out
       subst eo53
       have hnb54 := NB189_177.out
       have hnc54 := NB177_189.out
       have hcz55_0 : wr.cell? ⟨gb189, 0, none⟩ = some (u190000) := (bC_ BK189.out 0).trans rfl
       have hfz55_0 := bF_ BK189.out 0
       obtain ⟨Ao56, co56, eo56⟩ := kS_ HO_190000.out
       subst eo56
       have hcz57_0 : wr.cell? ⟨gb177, 0, none⟩ = some (.slice none 0 0) := (bC_ BK177.out 0).trans rfl
       have hfz57_0 := bF_ BK177.out 0
       go_wp2
       refine bodyPost_ret (results_cell_row rfl _ _ gb177 30 #[.slice Ao56 x190000_2.length co56] (0, 0) _ rfl (by refine bP_ (cs := #[.slice none 0 0]) ?_ 0 _ rfl; exact BK177.out) Try.underlying30 rfl (by kernel_rfl)) rfl ?_
       exact ⟨_, by rfl, by exact kM_ (kF_ (p := ⟨gb177, 0, none⟩) (kT_ HO_190000.out BK177.out (by decide)) (fun _ hk => hk.2) (.slice Ao56 x190000_2.length co56)) (fun _ hk => trivial), by repeat (first | (with_reducible first | exact HB.out | apply bA_ | apply bN_ | apply bD_ | refine bS_ ?_ GE177.out | refine bS_ ?_ GE189.out) | exact HB.out)⟩
def spec_l2Trie.f (k : Nat) (l0_0 : List (S65)) : Option (Bool) := (spec_l1In.f (l0_0.length : Int) 1 481).bind fun t201 => (if t201 = true then ((spec_l2Words.f k l0_0).bind fun t202 => ((spec_l2Set.f k t202).bind fun bt205 => (if bt205.2 = true then ((spec_l2Of.f k bt205.1).bind fun t209 => ((spec_l2Same.f k t209 l0_0).bind fun t212 => (some t212))) else (some false)))) else (some false))
theorem spec_l2Trie.mono : ∀ a0 k, LeO (spec_l2Trie.f k a0) (spec_l2Trie.f (k + 1) a0) := by
 intro a0 k
 unfold spec_l2Trie.f
 repeat' first
   | (with_reducible exact spec_l2Of.mono _ _)
   | (with_reducible exact spec_l2Same.mono _ _ _)
   | (with_reducible exact spec_l2Set.mono _ _)
   | (with_reducible exact spec_l2Words.mono _ _)
   | (with_reducible exact l3_ _)
   | (with_reducible exact l0_ _)
   | (with_reducible refine l2_ ?_ ?_)
   | (with_reducible refine l1_ ?_ (fun _ => ?_))
   | exact spec_l2Of.mono _ _
   | exact spec_l2Same.mono _ _ _
   | exact spec_l2Set.mono _ _
   | exact spec_l2Words.mono _ _
   | exact l0_ _
   | refine l2_ ?_ ?_
   | refine l1_ ?_ (fun _ => ?_)
def spec_l2Trie.T4 : Bool × List (List Nat × List Nat) := (true, [([], []), ([0], [0]), ([1], [1]), ([2, 1, 1], [1, 2]), ([1], [1]), ([3, 4, 3, 1], [1, 3, 4]), ([1, 5], [1, 5]), ([6, 5, 0, 1, 2, 3, 4, 5, 6], [6])])
def spec_l2Trie.B4 : List Nat := [0, 1, 3, 7, 3, 31, 63, 127]
theorem spec_l2Trie.tab4 : rtab .any (opsOf Try.f26 4) = spec_l2Trie.T4 := by kernel_rfl
theorem spec_l2Trie.bits4 : waitsOk spec_l2Trie.T4.2 spec_l2Trie.B4 = true := by kernel_rfl
theorem spec_l2Trie.calls (k : Nat) (A0_0 : Option Addr) (c0_0 : Nat) (l0_0 : List (S65)) (r : Bool) (w : World) (hr0_0 : Kd.C k65 w A0_0 l0_0.length l0_0) (hc0_0 : l0_0.length ≤ c0_0) (h : spec_l2Trie.f k l0_0 = some r) :
  Calls Try.prog 26 #[.agg #[.slice A0_0 l0_0.length c0_0]] w fun e w' => e = .returned (.bool r) ∧ Below w.heap.size w w' := by
 have hu30 := Try.underlying30
 have HR0_0 := aM_ hr0_0
 have HC0_0 := aM_ hc0_0
 clear hr0_0 hc0_0
 have HB := aM_ (Below.refl w.heap.size w)
 have H : ((spec_l1In.f (l0_0.length : Int) 1 481).bind fun t201 => (if t201 = true then ((spec_l2Words.f k l0_0).bind fun t202 => ((spec_l2Set.f k t202).bind fun bt205 => (if bt205.2 = true then ((spec_l2Of.f k bt205.1).bind fun t209 => ((spec_l2Same.f k t209 l0_0).bind fun t212 => (some t212))) else (some false)))) else (some false))) = some r := h
 clear h
 replace H := oB_.mp H
 obtain ⟨t201, A20, H⟩ := H
 try dsimp only at H
 have A2 := aM_ A20
 clear A20
 by_cases c3 : t201 = true
 ·
  subst c3
  rw [if_pos rfl] at H
  replace H := oB_.mp H
  obtain ⟨t202, A40, H⟩ := H
  try dsimp only at H
  have A4 := aM_ A40
  clear A40
  replace H := oB_.mp H
  obtain ⟨⟨t205, t206⟩, A50, H⟩ := H
  try dsimp only at H
  have A5 := aM_ A50
  clear A50
  by_cases c6 : t206 = true
  ·
   subst c6
   rw [if_pos rfl] at H
   replace H := oB_.mp H
   obtain ⟨t209, A70, H⟩ := H
   try dsimp only at H
   have A7 := aM_ A70
   clear A70
   replace H := oB_.mp H
   obtain ⟨t212, A80, H⟩ := H
   try dsimp only at H
   have A8 := aM_ A80
   clear A80
   obtain rfl := Option.some.inj H
   go_enter Try.func26, Try.ntmps26
   try go_wp2_with (first | ((with_reducible refine gD_ (N := 1) rfl ?_); refine bE_ ?hg (N := 1) ?hd (cs := #[.slice A0_0 l0_0.length c0_0]) (t := 30) ?hr ?_; (case hd => rfl); (case hg => rfl); (case hr => (go_simp; done)); intro gb200 hg w9 hbox hb; have BK200 := aM_ (hbox); have GW200 := aM_ ((by rw [hg]; exact (bZ_ HB.out) : w.heap.size ≤ gb200)); have GE200 := GW200; replace HB := aM_ (bT_ HB.out hb); clear hb hbox hg; have hcz10_0 : w9.cell? ⟨gb200, 0, none⟩ = some (.slice A0_0 l0_0.length c0_0) := (bC_ BK200.out 0).trans rfl; have hfz10_0 := bF_ BK200.out 0) | ((with_reducible refine gC_ (f := 34) rfl ?_); refine goesL_ (some 8) rfl rfl Try.func34 (by kernel_rfl) rfl #[.int .i64 (l0_0.length : Int), .int .i64 1, .int .i64 481] rfl (by (try simp only [sD_, sE_, sF_]); rfl) ?_; (with_reducible refine (spec_l1In.calls (l0_0.length : Int) 1 481 true _ A2.out).mono ?_); rintro e w' ⟨rfl, ⟨nd, rfl⟩⟩; refine ⟨_, rfl, ?_⟩) | ((with_reducible refine gC_ (f := 43) rfl ?_); refine goesL_ (some 12) rfl rfl Try.func43 (by kernel_rfl) rfl #[.agg #[.slice A0_0 l0_0.length c0_0]] rfl (by (try simp only [sD_, sE_, sF_]); rfl) ?_; (with_reducible refine (spec_l2Words.calls k _ _ l0_0 t202 _ ?side1 ?side2 A4.out).mono ?_); (case side1 => repeat (first | exact (k4_ HR0_0.out (by repeat (first | (with_reducible first | exact HB.out | apply bA_ | apply bN_ | apply bD_ | refine bS_ ?_ GE200.out) | exact HB.out))) | (with_reducible refine Kd.C_alloc ?_ _) | (with_reducible refine Kd.C_drewN ?_ _) | (with_reducible refine Kd.C_drew ?_))); (case side2 => exact HC0_0.out); rintro e w11 ⟨v203, rfl, ho0, hb⟩; refine ⟨_, rfl, ?_⟩; have HO204 := aM_ (k5_ ho0 (bZ_ (by repeat (first | (with_reducible first | exact HB.out | apply bA_ | apply bN_ | apply bD_ | refine bS_ ?_ GE200.out) | exact HB.out)))); replace BK200 := aM_ (bB_ (g := gb200) (o := .cells #[.slice A0_0 l0_0.length c0_0] 30 (0, 0)) (by (with_reducible repeat (first | refine b2_ ?_ _ | refine b1_ ?_ | refine b3_ ?_ _)); exact BK200.out) hb); replace HB := aM_ (bT_ (by repeat (first | (with_reducible first | exact HB.out | apply bA_ | apply bN_ | apply bD_ | refine bS_ ?_ GE200.out) | exact HB.out)) hb); (try clear hb); (try clear ho0); obtain ⟨Ao12, co12, eo12⟩ := kS_ HO204.out; subst eo12) | ((with_reducible refine gC_ (f := 42) rfl ?_); refine goesL_ (some 13) rfl rfl Try.func42 (by kernel_rfl) rfl #[.slice Ao12 t202.length co12] rfl (by (try simp only [sD_, sE_, sF_]); rfl) ?_; (with_reducible refine (spec_l2Set.calls k _ _ t202 t205 true _ ?side1 ?side2 A5.out).mono ?_); (case side1 => repeat (first | exact (kR_ HO204.out).2.2 | (with_reducible refine Kd.C_alloc ?_ _) | (with_reducible refine Kd.C_drewN ?_ _) | (with_reducible refine Kd.C_drew ?_))); (case side2 => exact (kR_ HO204.out).2.1); rintro e w13 ⟨v207, rfl, ho0, hb⟩; refine ⟨_, rfl, ?_⟩; have HO208 := aM_ (k5_ (Kd.R_new' ho0 (Kd.R_lt HO204.out)) (bZ_ HB.out)); replace HO204 := aM_ (Kd.R_elder' HO204.out (Kd.R_base ho0) hb); replace BK200 := aM_ (bB_ BK200.out hb); replace HB := aM_ (bT_ HB.out hb); (try clear hb); (try clear ho0)))
   have n0_ := aM_ (k3_ HO204.out)
   have n1_ := aM_ (k3_ HO208.out)
   have n2_ := aM_ (b1_ BK200.out)
   have n3_ := aM_ (bD_ HB.out)
   clear HO204
   clear HO208
   clear BK200
   clear HB
   have HO204 := n0_
   have HO208 := n1_
   have BK200 := n2_
   have HB := n3_
   clear n0_ n1_ n2_ n3_
   obtain ⟨Ao15, co15, eo15⟩ := kS_ HO208.out
   (subst eo15)
   refine start_ (n := 8) (S := fun w' => w'.cell? ⟨gb200, 0, none⟩ = some (.slice A0_0 l0_0.length c0_0)) (ds := []) #[fy, fy, fy, fy, fy, fy, fy, fy] (by kernel_rfl) rfl rfl ((bC_ BK200.out 0).trans rfl) (fun hHeld => ?_); refine with_tabW spec_l2Trie.tab4 spec_l2Trie.bits4 (fun HT_ HW_ => ?_)
   generalize w13.drew = w14 at HO204 HO208 BK200 HB hHeld ⊢
   refine pure_ (i := 0) (N := some 16) (v := ?_) (a' := ?_) #[ty, fy, fy, fy, fy, fy, fy, fy] rfl rfl (aO_ HT_.out (by kernel_rfl)) (fun _ _ _ h => h) (Or.inl ⟨by rfl, ?_⟩) ?_ ?_; rotate_left; (intro w'; go_simp; with_reducible rfl); rotate_left; (simp only [Act.put, sA_, sB_, sC_, i6_, i3_]; rfl)
   refine pure_ (i := 1) (N := some 17) (v := ?_) (a' := ?_) #[ty, ty, fy, fy, fy, fy, fy, fy] rfl rfl (aO_ HT_.out (by kernel_rfl)) (fun _ _ _ h => h) (Or.inl ⟨by rfl, ?_⟩) ?_ ?_; rotate_left; (intro w'; go_simp; with_reducible rfl); rotate_left; (simp only [Act.put, sA_, sB_, sC_, i6_, i3_]; rfl)
   refine pure_ (i := 2) (N := some 18) (v := ?_) (a' := ?_) #[ty, ty, ty, fy, fy, fy, fy, fy] rfl rfl (aO_ HT_.out (by kernel_rfl)) (fun _ _ _ h => h) (Or.inl ⟨by rfl, ?_⟩) ?_ ?_; rotate_left; (intro w'; go_simp; with_reducible rfl); rotate_left; (simp only [Act.put, sA_, sB_, sC_, i6_, i3_]; rfl)
   refine take_ (i := 4) (N := some 20) (v := ?_) (a' := ?_) #[ty, ty, ty, fy, ty, fy, fy, fy] rfl rfl (tW_ HT_.out HW_.out (by kernel_rfl)) (fun _ _ _ h => h) (Or.inl ⟨by rfl, ?_⟩) hHeld ?_ ?_; rotate_left; (intro w' s0; go_simp; with_reducible rfl); rotate_left; (simp only [Act.put, sA_, sB_, sC_, i6_, i3_]; rfl)
   refine one_ (i := 3) (N := some 19) #[ty, ty, ty, ty, ty, fy, fy, fy] rfl rfl (one_of HT_.out (by kernel_rfl)) (by decide) (fun K hK => ?_)
   refine goes_ Try.func45 (by kernel_rfl) rfl #[.slice Ao15 t205.length co15] (by rfl) rfl rfl (by (try simp only [sD_, sE_, sF_]); rfl) ?_
   with_reducible refine (spec_l2Of.calls k _ _ t205 t209 _ ?side1 ?side2 A7.out).mono ?_
   (case side1 => repeat (first | exact (kR_ HO208.out).2.2 | (with_reducible refine Kd.C_alloc ?_ _) | (with_reducible refine Kd.C_drewN ?_ _) | (with_reducible refine Kd.C_drew ?_)))
   (case side2 => exact (kR_ HO208.out).2.1)
   rintro e w16 ⟨v210, rfl, ho0, hb⟩
   refine ⟨_, rfl, ?_⟩
   have n0_ := aM_ (kB_ HO204.out hb)
   have n1_ := aM_ (kB_ HO208.out hb)
   have n2_ := aM_ (k5_ ho0 (bZ_ HB.out))
   have n3_ := aM_ (bB_ BK200.out hb)
   have n4_ := aM_ (bT_ HB.out hb)
   clear HO204
   clear HO208
   clear BK200
   clear HB
   have HO204 := n0_
   have HO208 := n1_
   have HO211 := n2_
   have BK200 := n3_
   have HB := n4_
   clear n0_ n1_ n2_ n3_ n4_
   (try clear hb)
   (try clear ho0)
   obtain ⟨Ao17, co17, eo17⟩ := kS_ HO211.out
   (subst eo17)
   refine hK.out _ _ ((bC_ BK200.out 0).trans rfl) (fun hHeld => ?_)
   clear hK K
   refine norm_ (a' := ?_) ?_ ?_; rotate_left; (show Act.put _ (some 19) _ = _; simp only [Act.put, sA_, sB_, sC_, i6_, i3_]; rfl)
   refine one_ (i := 5) (N := some 21) #[ty, ty, ty, ty, ty, ty, fy, fy] rfl rfl (one_of HT_.out (by kernel_rfl)) (by decide) (fun K hK => ?_)
   refine goes_ Try.func44 (by kernel_rfl) rfl #[.agg #[.slice Ao17 t209.length co17], .agg #[.slice A0_0 l0_0.length c0_0]] (by rfl) rfl rfl (by (try simp only [sD_, sE_, sF_]); rfl) ?_
   with_reducible refine (spec_l2Same.calls k _ _ t209 _ _ l0_0 t212 _ ?side1 ?side2 ?side3 ?side4 A8.out).mono ?_
   (case side1 => repeat (first | exact (kR_ HO211.out).2.2 | (with_reducible refine Kd.C_alloc ?_ _) | (with_reducible refine Kd.C_drewN ?_ _) | (with_reducible refine Kd.C_drew ?_)))
   (case side2 => exact (kR_ HO211.out).2.1)
   (case side3 => repeat (first | exact (k4_ HR0_0.out HB.out) | (with_reducible refine Kd.C_alloc ?_ _) | (with_reducible refine Kd.C_drewN ?_ _) | (with_reducible refine Kd.C_drew ?_)))
   (case side4 => exact HC0_0.out)
   rintro e w18 ⟨rfl, hb⟩
   refine ⟨_, rfl, ?_⟩
   have n0_ := aM_ (kB_ HO204.out hb)
   have n1_ := aM_ (kB_ HO208.out hb)
   have n2_ := aM_ (kB_ HO211.out hb)
   have n3_ := aM_ (bB_ BK200.out hb)
   have n4_ := aM_ (bT_ HB.out hb)
   clear HO204
   clear HO208
   clear HO211
   clear BK200
   clear HB
   have HO204 := n0_
   have HO208 := n1_
   have HO211 := n2_
   have BK200 := n3_
   have HB := n4_
   clear n0_ n1_ n2_ n3_ n4_
   (try clear hb)
   refine hK.out _ _ ((bC_ BK200.out 0).trans rfl) (fun hHeld => ?_)
   clear hK K
   refine norm_ (a' := ?_) ?_ ?_; rotate_left; (show Act.put _ (some 21) _ = _; simp only [Act.put, sA_, sB_, sC_, i6_, i3_]; rfl)
   refine pure_ (i := 6) (N := some 22) (v := ?_) (a' := ?_) #[ty, ty, ty, ty, ty, ty, ty, fy] rfl rfl (aO_ HT_.out (by kernel_rfl)) (fun _ _ _ h => h) (Or.inl ⟨by rfl, ?_⟩) ?_ ?_; rotate_left; (intro w'; go_simp; with_reducible rfl); rotate_left; (simp only [Act.put, sA_, sB_, sC_, i6_, i3_]; rfl)
   refine pure_ (i := 7) (N := some 2) (v := ?_) (a' := ?_) #[ty, ty, ty, ty, ty, ty, ty, ty] rfl rfl (aO_ HT_.out (by kernel_rfl)) (fun _ _ _ h => h) (Or.inl ⟨by rfl, ?_⟩) ?_ ?_; rotate_left; (intro w'; go_simp; with_reducible rfl); rotate_left; (simp only [Act.put, sA_, sB_, sC_, i6_, i3_]; rfl)
   refine done_ (done_of HT_.out (by kernel_rfl)) ?_
   try go_wp2
   go_ret
   exact ⟨by rfl, by exact HB.out⟩
  ·
   replace c6 := Bool.eq_false_iff.mpr c6
   subst c6
   have H1 : (some false) = some r := by rw [if_neg (show ¬ (false = true) by decide)] at H; exact H
   clear H
   have H := H1
   clear H1
   obtain rfl := Option.some.inj H
   go_enter Try.func26, Try.ntmps26
   try go_wp2_with (first | ((with_reducible refine gD_ (N := 1) rfl ?_); refine bE_ ?hg (N := 1) ?hd (cs := #[.slice A0_0 l0_0.length c0_0]) (t := 30) ?hr ?_; (case hd => rfl); (case hg => rfl); (case hr => (go_simp; done)); intro gb200 hg w19 hbox hb; have BK200 := aM_ (hbox); have GW200 := aM_ ((by rw [hg]; exact (bZ_ HB.out) : w.heap.size ≤ gb200)); have GE200 := GW200; replace HB := aM_ (bT_ HB.out hb); clear hb hbox hg; have hcz20_0 : w19.cell? ⟨gb200, 0, none⟩ = some (.slice A0_0 l0_0.length c0_0) := (bC_ BK200.out 0).trans rfl; have hfz20_0 := bF_ BK200.out 0) | ((with_reducible refine gC_ (f := 34) rfl ?_); refine goesL_ (some 8) rfl rfl Try.func34 (by kernel_rfl) rfl #[.int .i64 (l0_0.length : Int), .int .i64 1, .int .i64 481] rfl (by (try simp only [sD_, sE_, sF_]); rfl) ?_; (with_reducible refine (spec_l1In.calls (l0_0.length : Int) 1 481 true _ A2.out).mono ?_); rintro e w' ⟨rfl, ⟨nd, rfl⟩⟩; refine ⟨_, rfl, ?_⟩) | ((with_reducible refine gC_ (f := 43) rfl ?_); refine goesL_ (some 12) rfl rfl Try.func43 (by kernel_rfl) rfl #[.agg #[.slice A0_0 l0_0.length c0_0]] rfl (by (try simp only [sD_, sE_, sF_]); rfl) ?_; (with_reducible refine (spec_l2Words.calls k _ _ l0_0 t202 _ ?side1 ?side2 A4.out).mono ?_); (case side1 => repeat (first | exact (k4_ HR0_0.out (by repeat (first | (with_reducible first | exact HB.out | apply bA_ | apply bN_ | apply bD_ | refine bS_ ?_ GE200.out) | exact HB.out))) | (with_reducible refine Kd.C_alloc ?_ _) | (with_reducible refine Kd.C_drewN ?_ _) | (with_reducible refine Kd.C_drew ?_))); (case side2 => exact HC0_0.out); rintro e w21 ⟨v203, rfl, ho0, hb⟩; refine ⟨_, rfl, ?_⟩; have HO204 := aM_ (k5_ ho0 (bZ_ (by repeat (first | (with_reducible first | exact HB.out | apply bA_ | apply bN_ | apply bD_ | refine bS_ ?_ GE200.out) | exact HB.out)))); replace BK200 := aM_ (bB_ (g := gb200) (o := .cells #[.slice A0_0 l0_0.length c0_0] 30 (0, 0)) (by (with_reducible repeat (first | refine b2_ ?_ _ | refine b1_ ?_ | refine b3_ ?_ _)); exact BK200.out) hb); replace HB := aM_ (bT_ (by repeat (first | (with_reducible first | exact HB.out | apply bA_ | apply bN_ | apply bD_ | refine bS_ ?_ GE200.out) | exact HB.out)) hb); (try clear hb); (try clear ho0); obtain ⟨Ao22, co22, eo22⟩ := kS_ HO204.out; subst eo22) | ((with_reducible refine gC_ (f := 42) rfl ?_); refine goesL_ (some 13) rfl rfl Try.func42 (by kernel_rfl) rfl #[.slice Ao22 t202.length co22] rfl (by (try simp only [sD_, sE_, sF_]); rfl) ?_; (with_reducible refine (spec_l2Set.calls k _ _ t202 t205 false _ ?side1 ?side2 A5.out).mono ?_); (case side1 => repeat (first | exact (kR_ HO204.out).2.2 | (with_reducible refine Kd.C_alloc ?_ _) | (with_reducible refine Kd.C_drewN ?_ _) | (with_reducible refine Kd.C_drew ?_))); (case side2 => exact (kR_ HO204.out).2.1); rintro e w23 ⟨v207, rfl, ho0, hb⟩; refine ⟨_, rfl, ?_⟩; have HO208 := aM_ (k5_ (Kd.R_new' ho0 (Kd.R_lt HO204.out)) (bZ_ HB.out)); replace HO204 := aM_ (Kd.R_elder' HO204.out (Kd.R_base ho0) hb); replace BK200 := aM_ (bB_ BK200.out hb); replace HB := aM_ (bT_ HB.out hb); (try clear hb); (try clear ho0)))
   have n0_ := aM_ (k3_ HO204.out)
   have n1_ := aM_ (k3_ HO208.out)
   have n2_ := aM_ (b1_ BK200.out)
   have n3_ := aM_ (bD_ HB.out)
   clear HO204
   clear HO208
   clear BK200
   clear HB
   have HO204 := n0_
   have HO208 := n1_
   have BK200 := n2_
   have HB := n3_
   clear n0_ n1_ n2_ n3_
   refine start_ (n := 8) (S := fun w' => True) (ds := []) #[fy, fy, fy, fy, fy, fy, fy, fy] (by kernel_rfl) rfl rfl trivial (fun hHeld => ?_); refine with_tabW spec_l2Trie.tab4 spec_l2Trie.bits4 (fun HT_ HW_ => ?_)
   generalize w23.drew = w24 at HO204 HO208 BK200 HB hHeld ⊢
   refine pure_ (i := 0) (N := some 16) (v := ?_) (a' := ?_) #[ty, fy, fy, fy, fy, fy, fy, fy] rfl rfl (aO_ HT_.out (by kernel_rfl)) (fun _ _ _ h => h) (Or.inl ⟨by rfl, ?_⟩) ?_ ?_; rotate_left; (intro w'; go_simp; with_reducible rfl); rotate_left; (simp only [Act.put, sA_, sB_, sC_, i6_, i3_]; rfl)
   refine pure_ (i := 1) (N := some 17) (v := ?_) (a' := ?_) #[ty, ty, fy, fy, fy, fy, fy, fy] rfl rfl (aO_ HT_.out (by kernel_rfl)) (fun _ _ _ h => h) (Or.inl ⟨by rfl, ?_⟩) ?_ ?_; rotate_left; (intro w'; go_simp; with_reducible rfl); rotate_left; (simp only [Act.put, sA_, sB_, sC_, i6_, i3_]; rfl)
   refine pure_ (i := 2) (N := some 18) (v := undef) (a' := ?_) #[ty, ty, ty, fy, fy, fy, fy, fy] rfl rfl (aO_ HT_.out (by kernel_rfl)) (fun _ _ _ h => h) (Or.inr ⟨by rfl, rfl⟩) ?_ ?_
   rotate_left
   ·
    simp only [Act.put, sA_, sB_, sC_, i6_, i3_]
    rfl
   refine pure_ (i := 3) (N := some 19) (v := undef) (a' := ?_) #[ty, ty, ty, ty, fy, fy, fy, fy] rfl rfl (aO_ HT_.out (by kernel_rfl)) (fun _ _ _ h => h) (Or.inr ⟨by rfl, rfl⟩) ?_ ?_
   rotate_left
   ·
    simp only [Act.put, sA_, sB_, sC_, i6_, i3_]
    rfl
   refine pure_ (i := 4) (N := some 20) (v := undef) (a' := ?_) #[ty, ty, ty, ty, ty, fy, fy, fy] rfl rfl (aO_ HT_.out (by kernel_rfl)) (fun _ _ _ h => h) (Or.inr ⟨by rfl, rfl⟩) ?_ ?_
   rotate_left
   ·
    simp only [Act.put, sA_, sB_, sC_, i6_, i3_]
    rfl
   refine pure_ (i := 5) (N := some 21) (v := undef) (a' := ?_) #[ty, ty, ty, ty, ty, ty, fy, fy] rfl rfl (aO_ HT_.out (by kernel_rfl)) (fun _ _ _ h => h) (Or.inr ⟨by rfl, rfl⟩) ?_ ?_
   rotate_left
   ·
    simp only [Act.put, sA_, sB_, sC_, i6_, i3_]
    rfl
   refine pure_ (i := 6) (N := some 22) (v := ?_) (a' := ?_) #[ty, ty, ty, ty, ty, ty, ty, fy] rfl rfl (aO_ HT_.out (by kernel_rfl)) (fun _ _ _ h => h) (Or.inl ⟨by rfl, ?_⟩) ?_ ?_; rotate_left; (intro w'; go_simp; with_reducible rfl); rotate_left; (simp only [Act.put, sA_, sB_, sC_, i6_, i3_]; rfl)
   refine pure_ (i := 7) (N := some 2) (v := ?_) (a' := ?_) #[ty, ty, ty, ty, ty, ty, ty, ty] rfl rfl (aO_ HT_.out (by kernel_rfl)) (fun _ _ _ h => h) (Or.inl ⟨by rfl, ?_⟩) ?_ ?_; rotate_left; (intro w'; go_simp; with_reducible rfl); rotate_left; (simp only [Act.put, sA_, sB_, sC_, i6_, i3_]; rfl)
   refine done_ (done_of HT_.out (by kernel_rfl)) ?_
   try go_wp2
   go_ret
   exact ⟨by rfl, by exact HB.out⟩
 ·
  replace c3 := Bool.eq_false_iff.mpr c3
  subst c3
  have H1 : (some false) = some r := by rw [if_neg (show ¬ (false = true) by decide)] at H; exact H
  clear H
  have H := H1
  clear H1
  obtain rfl := Option.some.inj H
  go_enter Try.func26, Try.ntmps26
  go_wp2_with (first | ((with_reducible refine gD_ (N := 1) rfl ?_); refine bE_ ?hg (N := 1) ?hd (cs := #[.slice A0_0 l0_0.length c0_0]) (t := 30) ?hr ?_; (case hd => rfl); (case hg => rfl); (case hr => (go_simp; done)); intro gb200 hg w25 hbox hb; have BK200 := aM_ (hbox); have GW200 := aM_ ((by rw [hg]; exact (bZ_ HB.out) : w.heap.size ≤ gb200)); have GE200 := GW200; replace HB := aM_ (bT_ HB.out hb); clear hb hbox hg; have hcz26_0 : w25.cell? ⟨gb200, 0, none⟩ = some (.slice A0_0 l0_0.length c0_0) := (bC_ BK200.out 0).trans rfl; have hfz26_0 := bF_ BK200.out 0) | ((with_reducible refine gC_ (f := 34) rfl ?_); refine goesL_ (some 8) rfl rfl Try.func34 (by kernel_rfl) rfl #[.int .i64 (l0_0.length : Int), .int .i64 1, .int .i64 481] rfl (by (try simp only [sD_, sE_, sF_]); rfl) ?_; (with_reducible refine (spec_l1In.calls (l0_0.length : Int) 1 481 false _ A2.out).mono ?_); rintro e w' ⟨rfl, ⟨nd, rfl⟩⟩; refine ⟨_, rfl, ?_⟩))
  go_ret
  exact ⟨by rfl, by repeat (first | (with_reducible first | exact HB.out | apply bA_ | apply bN_ | apply bD_ | refine bS_ ?_ GE200.out) | exact HB.out)⟩
def spec_SavedNodes.f (k : Nat) (l0_0 : List (S65)) : Option (Int × Bool) := (spec_l2Trie.f k l0_0).bind fun t455 => (if t455 = true then ((spec_l7Machine.f k l0_0).bind fun t456 => (some (wrap64 ((l0_0.length : Int) - (t456.length : Int)), true))) else (some (0, false)))
theorem spec_SavedNodes.mono : ∀ a0 k, LeO (spec_SavedNodes.f k a0) (spec_SavedNodes.f (k + 1) a0) := by
 intro a0 k
 unfold spec_SavedNodes.f
 repeat' first
   | (with_reducible exact spec_l2Trie.mono _ _)
   | (with_reducible exact spec_l7Machine.mono _ _)
   | (with_reducible exact l3_ _)
   | (with_reducible exact l0_ _)
   | (with_reducible refine l2_ ?_ ?_)
   | (with_reducible refine l1_ ?_ (fun _ => ?_))
   | exact spec_l2Trie.mono _ _
   | exact spec_l7Machine.mono _ _
   | exact l0_ _
   | refine l2_ ?_ ?_
   | refine l1_ ?_ (fun _ => ?_)
def spec_SavedNodes.T3 : Bool × List (List Nat × List Nat) := (true, [([], []), ([0], [0]), ([1], [1]), ([], []), ([3], [3]), ([4], [4]), ([5], [5]), ([2, 6], [2, 6]), ([7, 4, 0, 1, 2, 3, 4, 5, 6, 7], [7]), ([8, 0, 1, 2, 3, 4, 5, 6, 7, 8], [])])
def spec_SavedNodes.B3 : List Nat := [0, 1, 3, 0, 8, 24, 56, 127, 255, 511]
theorem spec_SavedNodes.tab3 : rtab .any (opsOf Try.f11 3) = spec_SavedNodes.T3 := by kernel_rfl
theorem spec_SavedNodes.bits3 : waitsOk spec_SavedNodes.T3.2 spec_SavedNodes.B3 = true := by kernel_rfl
theorem spec_SavedNodes.calls (k : Nat) (A0_0 : Option Addr) (c0_0 : Nat) (l0_0 : List (S65)) (r1 : Int) (r2 : Bool) (w : World) (hr0_0 : Kd.C k65 w A0_0 l0_0.length l0_0) (hc0_0 : l0_0.length ≤ c0_0) (h : spec_SavedNodes.f k l0_0 = some (r1, r2)) :
  Calls Try.prog 11 #[.agg #[.slice A0_0 l0_0.length c0_0]] w fun e w' => e = .returned (.tuple #[.int .i64 r1, .bool r2]) ∧ Below w.heap.size w w' := by
 have hfd39 : ∀ (a_ : Option Addr) (n_ c_ : Nat) (W_ : World), (Instr.field 39 (.agg #[.slice a_ n_ c_]) 0).run Try.prog W_ = .ok (.slice a_ n_ c_) W_ := fun a_ n_ c_ W_ => by first | rfl | kernel_rfl
 have hu30 := Try.underlying30
 have HR0_0 := aM_ hr0_0
 have HC0_0 := aM_ hc0_0
 clear hr0_0 hc0_0
 have HB := aM_ (Below.refl w.heap.size w)
 have H : ((spec_l2Trie.f k l0_0).bind fun t455 => (if t455 = true then ((spec_l7Machine.f k l0_0).bind fun t456 => (some (wrap64 ((l0_0.length : Int) - (t456.length : Int)), true))) else (some (0, false)))) = some (r1, r2) := h
 clear h
 replace H := oB_.mp H
 obtain ⟨t455, A20, H⟩ := H
 try dsimp only at H
 have A2 := aM_ A20
 clear A20
 by_cases c3 : t455 = true
 ·
  subst c3
  rw [if_pos rfl] at H
  replace H := oB_.mp H
  obtain ⟨t456, A40, H⟩ := H
  try dsimp only at H
  have A4 := aM_ A40
  clear A40
  simp only [Option.some.injEq, Prod.mk.injEq] at H
  obtain ⟨rfl, rfl⟩ := H
  go_enter Try.func11, Try.ntmps11
  try go_wp2_with (first | ((with_reducible refine gD_ (N := 1) rfl ?_); refine bE_ ?hg (N := 1) ?hd (cs := #[.slice A0_0 l0_0.length c0_0]) (t := 30) ?hr ?_; (case hd => rfl); (case hg => rfl); (case hr => (go_simp; done)); intro gb454 hg w5 hbox hb; have BK454 := aM_ (hbox); have GW454 := aM_ ((by rw [hg]; exact (bZ_ HB.out) : w.heap.size ≤ gb454)); have GE454 := GW454; replace HB := aM_ (bT_ HB.out hb); clear hb hbox hg; have hcz6_0 : w5.cell? ⟨gb454, 0, none⟩ = some (.slice A0_0 l0_0.length c0_0) := (bC_ BK454.out 0).trans rfl; have hfz6_0 := bF_ BK454.out 0) | ((with_reducible refine gC_ (f := 26) rfl ?_); refine goesL_ (some 5) rfl rfl Try.func26 (by kernel_rfl) rfl #[.agg #[.slice A0_0 l0_0.length c0_0]] rfl (by (try simp only [sD_, sE_, sF_]); rfl) ?_; (with_reducible refine (spec_l2Trie.calls k _ _ l0_0 true _ ?side1 ?side2 A2.out).mono ?_); (case side1 => repeat (first | exact (k4_ HR0_0.out HB.out) | (with_reducible refine Kd.C_alloc ?_ _) | (with_reducible refine Kd.C_drewN ?_ _) | (with_reducible refine Kd.C_drew ?_))); (case side2 => exact HC0_0.out); rintro e w7 ⟨rfl, hb⟩; refine ⟨_, rfl, ?_⟩; replace BK454 := aM_ (bB_ BK454.out hb); replace HB := aM_ (bT_ HB.out hb); (try clear hb)))
  have n0_ := aM_ (b1_ BK454.out)
  have n1_ := aM_ (bD_ HB.out)
  clear BK454
  clear HB
  have BK454 := n0_
  have HB := n1_
  clear n0_ n1_
  refine start_ (n := 10) (S := fun w' => w'.cell? ⟨gb454, 0, none⟩ = some (.slice A0_0 l0_0.length c0_0)) (ds := []) #[fy, fy, fy, fy, fy, fy, fy, fy, fy, fy] (by kernel_rfl) rfl rfl ((bC_ BK454.out 0).trans rfl) (fun hHeld => ?_); refine with_tabW spec_SavedNodes.tab3 spec_SavedNodes.bits3 (fun HT_ HW_ => ?_)
  generalize w7.drew = w8 at BK454 HB hHeld ⊢
  refine pure_ (i := 0) (N := some 7) (v := ?_) (a' := ?_) #[ty, fy, fy, fy, fy, fy, fy, fy, fy, fy] rfl rfl (aO_ HT_.out (by kernel_rfl)) (fun _ _ _ h => h) (Or.inl ⟨by rfl, ?_⟩) ?_ ?_; rotate_left; (intro w'; go_simp; with_reducible rfl); rotate_left; (simp only [Act.put, sA_, sB_, sC_, i6_, i3_]; rfl)
  refine take_ (i := 1) (N := some 8) (v := ?_) (a' := ?_) #[ty, ty, fy, fy, fy, fy, fy, fy, fy, fy] rfl rfl (tW_ HT_.out HW_.out (by kernel_rfl)) (fun _ _ _ h => h) (Or.inl ⟨by rfl, ?_⟩) hHeld ?_ ?_; rotate_left; (intro w' s0; go_simp; with_reducible rfl); rotate_left; (simp only [Act.put, sA_, sB_, sC_, i6_, i3_]; rfl)
  refine pure_ (i := 2) (N := some 9) (v := ?_) (a' := ?_) #[ty, ty, ty, fy, fy, fy, fy, fy, fy, fy] rfl rfl (aO_ HT_.out (by kernel_rfl)) (fun _ _ _ h => h) (Or.inl ⟨by rfl, ?_⟩) ?_ ?_; rotate_left; (intro w'; go_simp; with_reducible rfl); rotate_left; (simp only [Act.put, sA_, sB_, sC_, i6_, i3_]; rfl)
  refine take_ (i := 3) (N := some 10) (v := ?_) (a' := ?_) #[ty, ty, ty, ty, fy, fy, fy, fy, fy, fy] rfl rfl (tW_ HT_.out HW_.out (by kernel_rfl)) (fun _ _ _ h => h) (Or.inl ⟨by rfl, ?_⟩) hHeld ?_ ?_; rotate_left; (intro w' s0; go_simp; with_reducible rfl); rotate_left; (simp only [Act.put, sA_, sB_, sC_, i6_, i3_]; rfl)
  refine one_ (i := 4) (N := some 11) #[ty, ty, ty, ty, ty, fy, fy, fy, fy, fy] rfl rfl (one_of HT_.out (by kernel_rfl)) (by decide) (fun K hK => ?_)
  refine goes_ Try.func27 (by kernel_rfl) rfl #[.agg #[.slice A0_0 l0_0.length c0_0]] (by rfl) rfl rfl (by (try simp only [sD_, sE_, sF_]); rfl) ?_
  with_reducible refine (spec_l7Machine.calls k _ _ l0_0 t456 _ ?side1 ?side2 A4.out).mono ?_
  (case side1 => repeat (first | exact (k4_ HR0_0.out HB.out) | (with_reducible refine Kd.C_alloc ?_ _) | (with_reducible refine Kd.C_drewN ?_ _) | (with_reducible refine Kd.C_drew ?_)))
  (case side2 => exact HC0_0.out)
  rintro e w9 ⟨v457, rfl, ho0, hb⟩
  refine ⟨_, rfl, ?_⟩
  have n0_ := aM_ (Kd.S_lower ho0 (bZ_ HB.out))
  have n1_ := aM_ (bB_ BK454.out hb)
  have n2_ := aM_ (bT_ HB.out hb)
  clear BK454
  clear HB
  have HO458 := n0_
  have BK454 := n1_
  have HB := n2_
  clear n0_ n1_ n2_
  (try clear hb)
  (try clear ho0)
  obtain ⟨Ao10, co10, eo10⟩ := Kd.S_slice HO458.out
  (subst eo10)
  refine hK.out _ _ ((bC_ BK454.out 0).trans rfl) (fun hHeld => ?_)
  clear hK K
  refine norm_ (a' := ?_) ?_ ?_; rotate_left; (show Act.put _ (some 11) _ = _; simp only [Act.put, sA_, sB_, sC_, i6_, i3_]; rfl)
  refine pure_ (i := 5) (N := some 12) (v := ?_) (a' := ?_) #[ty, ty, ty, ty, ty, ty, fy, fy, fy, fy] rfl rfl (aO_ HT_.out (by kernel_rfl)) (fun _ _ _ h => h) (Or.inl ⟨by rfl, ?_⟩) ?_ ?_; rotate_left; (intro w'; go_simp; with_reducible rfl); rotate_left; (simp only [Act.put, sA_, sB_, sC_, i6_, i3_]; rfl)
  refine pure_ (i := 6) (N := some 13) (v := ?_) (a' := ?_) #[ty, ty, ty, ty, ty, ty, ty, fy, fy, fy] rfl rfl (aO_ HT_.out (by kernel_rfl)) (fun _ _ _ h => h) (Or.inl ⟨by rfl, ?_⟩) ?_ ?_; rotate_left; (intro w'; go_simp; with_reducible rfl); rotate_left; (simp only [Act.put, sA_, sB_, sC_, i6_, i3_]; rfl)
  refine pure_ (i := 7) (N := some 14) (v := ?_) (a' := ?_) #[ty, ty, ty, ty, ty, ty, ty, ty, fy, fy] rfl rfl (aO_ HT_.out (by kernel_rfl)) (fun _ _ _ h => h) (Or.inl ⟨by rfl, ?_⟩) ?_ ?_; rotate_left; (intro w'; go_simp; with_reducible rfl); rotate_left; (simp only [Act.put, sA_, sB_, sC_, i6_, i3_]; rfl)
  refine pure_ (i := 8) (N := some 2) (v := ?_) (a' := ?_) #[ty, ty, ty, ty, ty, ty, ty, ty, ty, fy] rfl rfl (aO_ HT_.out (by kernel_rfl)) (fun _ _ _ h => h) (Or.inl ⟨by rfl, ?_⟩) ?_ ?_; rotate_left; (intro w'; go_simp; with_reducible rfl); rotate_left; (simp only [Act.put, sA_, sB_, sC_, i6_, i3_]; rfl)
  refine pure_ (i := 9) (N := some 3) (v := ?_) (a' := ?_) #[ty, ty, ty, ty, ty, ty, ty, ty, ty, ty] rfl rfl (aO_ HT_.out (by kernel_rfl)) (fun _ _ _ h => h) (Or.inl ⟨by rfl, ?_⟩) ?_ ?_; rotate_left; (intro w'; go_simp; with_reducible rfl); rotate_left; (simp only [Act.put, sA_, sB_, sC_, i6_, i3_]; rfl)
  refine done_ (done_of HT_.out (by kernel_rfl)) ?_
  try go_wp2
  go_ret2
  exact ⟨by rfl, by exact HB.out⟩
 ·
  replace c3 := Bool.eq_false_iff.mpr c3
  subst c3
  have H1 : (some (0, false)) = some (r1, r2) := by rw [if_neg (show ¬ (false = true) by decide)] at H; exact H
  clear H
  have H := H1
  clear H1
  simp only [Option.some.injEq, Prod.mk.injEq] at H
  obtain ⟨rfl, rfl⟩ := H
  go_enter Try.func11, Try.ntmps11
  go_wp2_with (first | ((with_reducible refine gD_ (N := 1) rfl ?_); refine bE_ ?hg (N := 1) ?hd (cs := #[.slice A0_0 l0_0.length c0_0]) (t := 30) ?hr ?_; (case hd => rfl); (case hg => rfl); (case hr => (go_simp; done)); intro gb454 hg w11 hbox hb; have BK454 := aM_ (hbox); have GW454 := aM_ ((by rw [hg]; exact (bZ_ HB.out) : w.heap.size ≤ gb454)); have GE454 := GW454; replace HB := aM_ (bT_ HB.out hb); clear hb hbox hg; have hcz12_0 : w11.cell? ⟨gb454, 0, none⟩ = some (.slice A0_0 l0_0.length c0_0) := (bC_ BK454.out 0).trans rfl; have hfz12_0 := bF_ BK454.out 0) | ((with_reducible refine gC_ (f := 26) rfl ?_); refine goesL_ (some 5) rfl rfl Try.func26 (by kernel_rfl) rfl #[.agg #[.slice A0_0 l0_0.length c0_0]] rfl (by (try simp only [sD_, sE_, sF_]); rfl) ?_; (with_reducible refine (spec_l2Trie.calls k _ _ l0_0 false _ ?side1 ?side2 A2.out).mono ?_); (case side1 => repeat (first | exact (k4_ HR0_0.out HB.out) | (with_reducible refine Kd.C_alloc ?_ _) | (with_reducible refine Kd.C_drewN ?_ _) | (with_reducible refine Kd.C_drew ?_))); (case side2 => exact HC0_0.out); rintro e w13 ⟨rfl, hb⟩; refine ⟨_, rfl, ?_⟩; replace BK454 := aM_ (bB_ BK454.out hb); replace HB := aM_ (bT_ HB.out hb); (try clear hb)))
  go_ret2
  exact ⟨by rfl, by exact HB.out⟩
def laws_FnExactSavedNodes.j0 : Nat → Bool → List (S67) → List (S65) → Option (Bool)
 | 0, _, _, _ => none
 | k + 1, x34, x485000, x495000 => if x34 = true then (some false) else ((laws_toTrie.f k x485000).bind fun t497 => ((laws_eqTrie.f k x495000 t497).bind fun t500 => (if t500 = true then (some true) else (some false))))
def laws_FnExactSavedNodes.f (k : Nat) (l0_0 : List (S67)) : Option (Bool) := (laws_szTrie.f l0_0 1048576).bind fun t485 => (if t485 < 0 then (some true) else ((laws_toTrie.f k l0_0).bind fun t486 => ((spec_SavedNodes.f k t486).bind fun bt489 => ((laws_toTrie.f k l0_0).bind fun t491 => ((impl_SavedNodes.f k t491).bind fun bt495 => (if bt495.1 = bt489.1 then (laws_FnExactSavedNodes.j0 k (bt495.2 != bt489.2) l0_0 t491) else (laws_FnExactSavedNodes.j0 k true l0_0 t491)))))))
theorem laws_FnExactSavedNodes.mono_l : ∀ k, (∀ y0 y1 y2, LeO (laws_FnExactSavedNodes.j0 k y0 y1 y2) (laws_FnExactSavedNodes.j0 (k + 1) y0 y1 y2))
 | 0 => fun _ _ _ r h => by simp [laws_FnExactSavedNodes.j0] at h
 | k + 1 => by
  have ih0 := laws_FnExactSavedNodes.mono_l k
  ·
   intro y0 y1 y2
   unfold laws_FnExactSavedNodes.j0
   repeat' first
   | (with_reducible exact ih0 _ _ _)
   | (with_reducible exact impl_SavedNodes.mono _ _)
   | (with_reducible exact laws_eqTrie.mono _ _ _)
   | (with_reducible exact laws_toTrie.mono _ _)
   | (with_reducible exact spec_SavedNodes.mono _ _)
   | (with_reducible exact l3_ _)
   | (with_reducible exact l0_ _)
   | (with_reducible refine l2_ ?_ ?_)
   | (with_reducible refine l1_ ?_ (fun _ => ?_))
   | exact ih0 _ _ _
   | exact impl_SavedNodes.mono _ _
   | exact laws_eqTrie.mono _ _ _
   | exact laws_toTrie.mono _ _
   | exact spec_SavedNodes.mono _ _
   | exact l0_ _
   | refine l2_ ?_ ?_
   | refine l1_ ?_ (fun _ => ?_)
theorem laws_FnExactSavedNodes.mono : ∀ a0 k, LeO (laws_FnExactSavedNodes.f k a0) (laws_FnExactSavedNodes.f (k + 1) a0) := by
 intro a0 k
 have ih0 := laws_FnExactSavedNodes.mono_l k
 unfold laws_FnExactSavedNodes.f
 repeat' first
   | (with_reducible exact ih0 _ _ _)
   | (with_reducible exact impl_SavedNodes.mono _ _)
   | (with_reducible exact laws_eqTrie.mono _ _ _)
   | (with_reducible exact laws_toTrie.mono _ _)
   | (with_reducible exact spec_SavedNodes.mono _ _)
   | (with_reducible exact l3_ _)
   | (with_reducible exact l0_ _)
   | (with_reducible refine l2_ ?_ ?_)
   | (with_reducible refine l1_ ?_ (fun _ => ?_))
   | exact ih0 _ _ _
   | exact impl_SavedNodes.mono _ _
   | exact laws_eqTrie.mono _ _ _
   | exact laws_toTrie.mono _ _
   | exact spec_SavedNodes.mono _ _
   | exact l0_ _
   | refine l2_ ?_ ?_
   | refine l1_ ?_ (fun _ => ?_)
theorem laws_FnExactSavedNodes.calls (k : Nat) (A0_0 : Option Addr) (c0_0 : Nat) (l0_0 : List (S67)) (r : Bool) (w : World) (hr0_0 : Kd.C k67 w A0_0 l0_0.length l0_0) (hc0_0 : l0_0.length ≤ c0_0) (h : laws_FnExactSavedNodes.f k l0_0 = some r) :
  Calls Try.prog 4 #[.agg #[.slice A0_0 l0_0.length c0_0]] w fun e w' => e = .returned (.bool r) ∧ Below w.heap.size w w' := by
 have hu24 := Try.underlying24
 have hu30 := Try.underlying30
 have HR0_0 := aM_ hr0_0
 have HC0_0 := aM_ hc0_0
 clear hr0_0 hc0_0
 have HB := aM_ (Below.refl w.heap.size w)
 have H : ((laws_szTrie.f l0_0 1048576).bind fun t485 => (if t485 < 0 then (some true) else ((laws_toTrie.f k l0_0).bind fun t486 => ((spec_SavedNodes.f k t486).bind fun bt489 => ((laws_toTrie.f k l0_0).bind fun t491 => ((impl_SavedNodes.f k t491).bind fun bt495 => (if bt495.1 = bt489.1 then (laws_FnExactSavedNodes.j0 k (bt495.2 != bt489.2) l0_0 t491) else (laws_FnExactSavedNodes.j0 k true l0_0 t491)))))))) = some r := h
 clear h
 replace H := oB_.mp H
 obtain ⟨t485, A20, H⟩ := H
 try dsimp only at H
 have A2 := aM_ A20
 clear A20
 by_cases c3 : t485 < 0
 ·
  rw [if_pos c3] at H
  have c3b0 := decide_eq_true c3
  clear c3
  obtain rfl := Option.some.inj H
  go_enter Try.func4, Try.ntmps4
  go_wp2_with (first | ((with_reducible refine gD_ (N := 1) rfl ?_); refine bE_ ?hg (N := 1) ?hd (cs := #[.slice A0_0 l0_0.length c0_0]) (t := 24) ?hr ?_; (case hd => rfl); (case hg => rfl); (case hr => (go_simp; done)); intro gb484 hg w4 hbox hb; have BK484 := aM_ (hbox); have GW484 := aM_ ((by rw [hg]; exact (bZ_ HB.out) : w.heap.size ≤ gb484)); have GE484 := GW484; replace HB := aM_ (bT_ HB.out hb); clear hb hbox hg; have hcz5_0 : w4.cell? ⟨gb484, 0, none⟩ = some (.slice A0_0 l0_0.length c0_0) := (bC_ BK484.out 0).trans rfl; have hfz5_0 := bF_ BK484.out 0) | ((with_reducible refine gC_ (f := 6) rfl ?_); refine goesL_ (some 11) rfl rfl Try.func6 (by kernel_rfl) rfl #[.agg #[.slice A0_0 l0_0.length c0_0], .int .i64 1048576] rfl (by (try simp only [sD_, sE_, sF_]); rfl) ?_; (with_reducible refine (laws_szTrie.calls _ _ l0_0 1048576 t485 _ ?side1 ?side2 A2.out).mono ?_); (case side1 => repeat (first | exact (k4_ HR0_0.out HB.out) | (with_reducible refine Kd.C_alloc ?_ _) | (with_reducible refine Kd.C_drewN ?_ _) | (with_reducible refine Kd.C_drew ?_))); (case side2 => exact HC0_0.out); rintro e w6 ⟨rfl, hb⟩; refine ⟨_, rfl, ?_⟩; replace BK484 := aM_ (bB_ BK484.out hb); replace HB := aM_ (bT_ HB.out hb); (try clear hb)))
  go_ret
  exact ⟨by rfl, by exact HB.out⟩
 ·
  rw [if_neg c3] at H
  have c3b0 := decide_eq_false c3
  clear c3
  replace H := oB_.mp H
  obtain ⟨t486, A70, H⟩ := H
  try dsimp only at H
  have A7 := aM_ A70
  clear A70
  replace H := oB_.mp H
  obtain ⟨⟨t489, t490⟩, A80, H⟩ := H
  try dsimp only at H
  have A8 := aM_ A80
  clear A80
  replace H := oB_.mp H
  obtain ⟨t491, A90, H⟩ := H
  try dsimp only at H
  have A9 := aM_ A90
  clear A90
  replace H := oB_.mp H
  obtain ⟨⟨t495, t496⟩, A100, H⟩ := H
  try dsimp only at H
  have A10 := aM_ A100
  clear A100
  have HC11 := aM_ H
  clear H
  go_enter Try.func4, Try.ntmps4
  go_upto_region 8 with (first | ((with_reducible refine gD_ (N := 1) rfl ?_); refine bE_ ?hg (N := 1) ?hd (cs := #[.slice A0_0 l0_0.length c0_0]) (t := 24) ?hr ?_; (case hd => rfl); (case hg => rfl); (case hr => (go_simp; done)); intro gb484 hg w12 hbox hb; have BK484 := aM_ (hbox); have GW484 := aM_ ((by rw [hg]; exact (bZ_ HB.out) : w.heap.size ≤ gb484)); have GE484 := GW484; replace HB := aM_ (bT_ HB.out hb); clear hb hbox hg; have hcz13_0 : w12.cell? ⟨gb484, 0, none⟩ = some (.slice A0_0 l0_0.length c0_0) := (bC_ BK484.out 0).trans rfl; have hfz13_0 := bF_ BK484.out 0) | ((with_reducible refine gC_ (f := 6) rfl ?_); refine goesL_ (some 11) rfl rfl Try.func6 (by kernel_rfl) rfl #[.agg #[.slice A0_0 l0_0.length c0_0], .int .i64 1048576] rfl (by (try simp only [sD_, sE_, sF_]); rfl) ?_; (with_reducible refine (laws_szTrie.calls _ _ l0_0 1048576 t485 _ ?side1 ?side2 A2.out).mono ?_); (case side1 => repeat (first | exact (k4_ HR0_0.out HB.out) | (with_reducible refine Kd.C_alloc ?_ _) | (with_reducible refine Kd.C_drewN ?_ _) | (with_reducible refine Kd.C_drew ?_))); (case side2 => exact HC0_0.out); rintro e w14 ⟨rfl, hb⟩; refine ⟨_, rfl, ?_⟩; replace BK484 := aM_ (bB_ BK484.out hb); replace HB := aM_ (bT_ HB.out hb); (try clear hb); have hcz15_0 : w14.cell? ⟨gb484, 0, none⟩ = some (.slice A0_0 l0_0.length c0_0) := (bC_ BK484.out 0).trans rfl; have hfz15_0 := bF_ BK484.out 0) | ((with_reducible refine gC_ (f := 8) rfl ?_); refine goesL_ (some 16) rfl rfl Try.func8 (by kernel_rfl) rfl #[.agg #[.slice A0_0 l0_0.length c0_0]] rfl (by (try simp only [sD_, sE_, sF_]); rfl) ?_; (with_reducible refine (laws_toTrie.calls k _ _ l0_0 t486 _ ?side1 ?side2 A7.out).mono ?_); (case side1 => repeat (first | exact (k4_ HR0_0.out HB.out) | (with_reducible refine Kd.C_alloc ?_ _) | (with_reducible refine Kd.C_drewN ?_ _) | (with_reducible refine Kd.C_drew ?_))); (case side2 => exact HC0_0.out); rintro e w16 ⟨v487, rfl, ho0, hb⟩; refine ⟨_, rfl, ?_⟩; have HO488 := aM_ (k5_ ho0 (bZ_ HB.out)); replace BK484 := aM_ (bB_ BK484.out hb); replace HB := aM_ (bT_ HB.out hb); (try clear hb); (try clear ho0); obtain ⟨Ao17, co17, eo17⟩ := kS_ HO488.out; subst eo17) | ((with_reducible refine gC_ (f := 11) rfl ?_); refine goesL_ (some 17) rfl rfl Try.func11 (by kernel_rfl) rfl #[.agg #[.slice Ao17 t486.length co17]] rfl (by (try simp only [sD_, sE_, sF_]); rfl) ?_; (with_reducible refine (spec_SavedNodes.calls k _ _ t486 t489 t490 _ ?side1 ?side2 A8.out).mono ?_); (case side1 => repeat (first | exact (kR_ HO488.out).2.2 | (with_reducible refine Kd.C_alloc ?_ _) | (with_reducible refine Kd.C_drewN ?_ _) | (with_reducible refine Kd.C_drew ?_))); (case side2 => exact (kR_ HO488.out).2.1); rintro e w18 ⟨rfl, hb⟩; refine ⟨_, rfl, ?_⟩; replace HO488 := aM_ (kB_ HO488.out hb); replace BK484 := aM_ (bB_ BK484.out hb); replace HB := aM_ (bT_ HB.out hb); (try clear hb); have hcz19_0 : w18.cell? ⟨gb484, 0, none⟩ = some (.slice A0_0 l0_0.length c0_0) := (bC_ BK484.out 0).trans rfl; have hfz19_0 := bF_ BK484.out 0) | ((with_reducible refine gC_ (f := 8) rfl ?_); refine goesL_ (some 21) rfl rfl Try.func8 (by kernel_rfl) rfl #[.agg #[.slice A0_0 l0_0.length c0_0]] rfl (by (try simp only [sD_, sE_, sF_]); rfl) ?_; (with_reducible refine (laws_toTrie.calls k _ _ l0_0 t491 _ ?side1 ?side2 A9.out).mono ?_); (case side1 => repeat (first | exact (k4_ HR0_0.out HB.out) | (with_reducible refine Kd.C_alloc ?_ _) | (with_reducible refine Kd.C_drewN ?_ _) | (with_reducible refine Kd.C_drew ?_))); (case side2 => exact HC0_0.out); rintro e w20 ⟨v492, rfl, ho0, hb⟩; refine ⟨_, rfl, ?_⟩; have HO493 := aM_ (k5_ (Kd.R_new' ho0 (Kd.R_lt HO488.out)) (bZ_ HB.out)); replace HO488 := aM_ (Kd.R_elder' HO488.out (Kd.R_base ho0) hb); replace BK484 := aM_ (bB_ BK484.out hb); replace HB := aM_ (bT_ HB.out hb); (try clear hb); (try clear ho0)) | ((with_reducible refine gD_ (N := 6) rfl ?_); refine bE_ ?hg (N := 6) ?hd (cs := #[.slice none 0 0]) (t := 30) ?hr ?_; (case hd => rfl); (case hg => rfl); (case hr => (go_simp; done)); intro gb494 hg w21 hbox hb; replace HO488 := aM_ (kB_ HO488.out hb); replace HO493 := aM_ (kB_ HO493.out hb); have BK494 := aM_ (hbox); have GW494 := aM_ ((by rw [hg]; exact (bZ_ HB.out) : w.heap.size ≤ gb494)); have GE494 := GW494; replace HB := aM_ (bT_ HB.out hb); have NB484_494 := aM_ ((by rw [hg]; exact Nat.ne_of_lt (bL_ BK484.out) : gb484 ≠ gb494)); have NB494_484 := aM_ NB484_494.out.symm; replace BK484 := aM_ (bB_ BK484.out hb); clear hb hbox hg; obtain ⟨Ao22, co22, eo22⟩ := kS_ HO493.out; subst eo22; have hnb23 := NB494_484.out; have hnc23 := NB484_494.out; have hcz24_0 : w21.cell? ⟨gb494, 0, none⟩ = some (.slice none 0 0) := (bC_ BK494.out 0).trans rfl; have hfz24_0 := bF_ BK494.out 0) | ((with_reducible refine gC_ (f := 12) rfl ?_); refine goesL_ (some 24) rfl rfl Try.func12 (by kernel_rfl) rfl #[.agg #[.slice Ao22 t491.length co22]] rfl (by (try simp only [sD_, sE_, sF_]); rfl) ?_; (with_reducible refine (impl_SavedNodes.calls k _ _ t491 t495 t496 _ ?side1 ?side2 A10.out).mono ?_); (case side1 => refine (kR_ (e := 65) (base := w.heap.size) (ok := fun k_ => (True ∧ some k_ ≠ (.slice Ao17 t486.length co17 : Value).ownBlock)) (n := t491.length) (c := co22) ?_).2.2; exact (by exact (kM_ (kF_ (p := ⟨gb494, 0, none⟩) (kT_ HO493.out BK494.out (by decide)) (fun _ hk => hk.2) (.slice Ao22 t491.length co22)) (fun _ h_ => h_.1)))); (case side2 => exact (kR_ HO493.out).2.1); rintro e w25 ⟨rfl, hb⟩; refine ⟨_, rfl, ?_⟩; replace HO488 := aM_ (kB_ (by exact (kM_ (kF_ (p := ⟨gb494, 0, none⟩) (kT_ HO488.out BK494.out (by decide)) (fun _ hk => hk.2) (.slice Ao22 t491.length co22)) (fun _ h_ => h_.1))) hb); replace HO493 := aM_ (kB_ (by exact (kM_ (kF_ (p := ⟨gb494, 0, none⟩) (kT_ HO493.out BK494.out (by decide)) (fun _ hk => hk.2) (.slice Ao22 t491.length co22)) (fun _ h_ => h_.1))) hb); replace BK484 := aM_ (bB_ (g := gb484) (o := .cells #[.slice A0_0 l0_0.length c0_0] 24 (0, 0)) (by refine bR_ ?_ NB484_494.out _; exact BK484.out) hb); replace BK494 := aM_ (bB_ (g := gb494) (o := .cells #[.slice Ao22 t491.length co22] 30 (0, 0)) (by refine bP_ (cs := #[.slice none 0 0]) ?_ 0 _ rfl; exact BK494.out) hb); replace HB := aM_ (bT_ (by repeat (first | (with_reducible first | exact HB.out | apply bA_ | apply bN_ | apply bD_ | refine bS_ ?_ GE484.out | refine bS_ ?_ GE494.out) | exact HB.out)) hb); (try clear hb)))
  (try simp only [Act.put, sA_, sB_, sC_])
  go_cut [34] (fun v34 wc => ∃ (kq : Nat) (x34_10 : Bool), v34 = .bool x34_10 ∧ Aside0 (laws_FnExactSavedNodes.j0 kq x34_10 l0_0 t491 = some r) ∧ Aside0 (kq ≤ k) ∧ Aside0 (Kd.R k65 65 wc w.heap.size (fun _ => True) (.slice Ao22 t491.length co22) t491) ∧ Aside0 (wc.heap[gb484]? = some (.cells #[(.slice A0_0 l0_0.length c0_0)] 24 (0, 0))) ∧ Aside0 (wc.heap[gb494]? = some (.cells #[(.slice Ao22 t491.length co22)] 30 (0, 0))) ∧ Aside0 (Below w.heap.size w wc))
  case first =>
   have H := HC11.out
   clear HC11
   by_cases c26 : t495 = t489
   ·
    rw [if_pos c26] at H
    have c26b0 : (t495 == t489) = true := beq_iff_eq.mpr c26
    have c26b1 : (t495 != t489) = false := bne_eq_false_iff_eq.mpr c26
    clear c26
    (skip)
    have H' := aM_ H
    clear H
    go_wp2
    go_meet
    case rel => exact ⟨_, ((t496 != t490)), (by rfl), H', ⟨by omega⟩, ⟨by exact kM_ HO493.out (fun _ hk => trivial)⟩, ⟨BK484.out⟩, ⟨BK494.out⟩, ⟨HB.out⟩⟩
   ·
    rw [if_neg c26] at H
    have c26b0 : (t495 == t489) = false := beq_eq_false_iff_ne.mpr c26
    have c26b1 : (t495 != t489) = true := bne_iff_ne.mpr c26
    (skip)
    have H' := aM_ H
    clear H
    go_wp2
    go_meet
    case rel => exact ⟨_, (true), (by rfl), H', ⟨by omega⟩, ⟨by exact kM_ HO493.out (fun _ hk => trivial)⟩, ⟨BK484.out⟩, ⟨BK494.out⟩, ⟨HB.out⟩⟩
  case rest =>
   clear HC11
   try clear p2
   try clear c3b0
   try clear c26b0
   try clear c26b1
   try clear hcz13_0
   try clear hcz15_0
   try clear hcz19_0
   try clear hcz24_0
   try clear hcz5_0
   try clear hfz13_0
   try clear hfz15_0
   try clear hfz19_0
   try clear hfz24_0
   try clear hfz5_0
   obtain ⟨kq, x34_10, rfl, HA, HJ10, HO_495000, BK484, BK494, HB⟩ := hcut
   cases kq with
   | zero => exact absurd HA.out (by simp [laws_FnExactSavedNodes.j0])
   | succ kj10 =>
    have H := HA.out
    clear HA
    simp only [laws_FnExactSavedNodes.j0] at H
    by_cases c27 : x34_10 = true
    ·
     subst c27
     rw [if_pos rfl] at H
     obtain rfl := Option.some.inj H
     go_wp2
     go_ret
     exact ⟨by rfl, by exact HB.out⟩
    ·
     replace c27 := Bool.eq_false_iff.mpr c27
     subst c27
     have H1 : ((laws_toTrie.f kj10 l0_0).bind fun t497 => ((laws_eqTrie.f kj10 t491 t497).bind fun t500 => (if t500 = true then (some true) else (some false)))) = some r := by rw [if_neg (show ¬ (false = true) by decide)] at H; exact H
     clear H
     have H := H1
     clear H1
     replace H := oB_.mp H
     obtain ⟨t497, A280, H⟩ := H
     try dsimp only at H
     have A28 := aM_ A280
     clear A280
     replace H := oB_.mp H
     obtain ⟨t500, A290, H⟩ := H
     try dsimp only at H
     have A29 := aM_ A290
     clear A290
     by_cases c30 : t500 = true
     ·
      subst c30
      rw [if_pos rfl] at H
      obtain rfl := Option.some.inj H
      try go_wp2
      have n0_ := aM_ (k3_ HO_495000.out)
      have n1_ := aM_ (b1_ BK484.out)
      have n2_ := aM_ (b1_ BK494.out)
      have n3_ := aM_ (bD_ HB.out)
      clear HO_495000
      clear BK484
      clear BK494
      clear HB
      have HO_495000 := n0_
      have BK484 := n1_
      have BK494 := n2_
      have HB := n3_
      clear n0_ n1_ n2_ n3_
      refine start_ (n := 5) (S := fun w' => w'.cell? ⟨gb494, 0, none⟩ = some (.slice Ao22 t491.length co22) ∧ w'.cell? ⟨gb484, 0, none⟩ = some (.slice A0_0 l0_0.length c0_0)) (ds := []) #[fy, fy, fy, fy, fy] (by kernel_rfl) rfl rfl ⟨(bC_ BK494.out 0).trans rfl, (bC_ BK484.out 0).trans rfl⟩ (fun hHeld => ?_)
      generalize wc.drew = w31 at HO_495000 BK484 BK494 HB hHeld ⊢
      refine take_ (i := 0) (N := some 35) (v := ?_) (a' := ?_) #[ty, fy, fy, fy, fy] rfl rfl (by kernel_rfl) (fun _ _ _ h => h) (Or.inl ⟨by rfl, ?_⟩) hHeld ?_ ?_; rotate_left; (rintro w' ⟨s0, s1⟩; go_simp; with_reducible rfl); rotate_left; (simp only [Act.put, sA_, sB_, sC_, i6_, i3_]; rfl)
      refine take_ (i := 1) (N := some 36) (v := ?_) (a' := ?_) #[ty, ty, fy, fy, fy] rfl rfl (by kernel_rfl) (fun _ _ _ h => h) (Or.inl ⟨by rfl, ?_⟩) hHeld ?_ ?_; rotate_left; (rintro w' ⟨s0, s1⟩; go_simp; with_reducible rfl); rotate_left; (simp only [Act.put, sA_, sB_, sC_, i6_, i3_]; rfl)
      refine one_ (i := 2) (N := some 37) #[ty, ty, ty, fy, fy] rfl rfl (by kernel_rfl) (by decide) (fun K hK => ?_)
      refine goes_ Try.func8 (by kernel_rfl) rfl #[.agg #[.slice A0_0 l0_0.length c0_0]] (by rfl) rfl rfl (by (try simp only [sD_, sE_, sF_]); rfl) ?_
      with_reducible refine (laws_toTrie.calls kj10 _ _ l0_0 t497 _ ?side1 ?side2 A28.out).mono ?_
      (case side1 => repeat (first | exact (k4_ HR0_0.out HB.out) | (with_reducible refine Kd.C_alloc ?_ _) | (with_reducible refine Kd.C_drewN ?_ _) | (with_reducible refine Kd.C_drew ?_)))
      (case side2 => exact HC0_0.out)
      rintro e w32 ⟨v498, rfl, ho0, hb⟩
      refine ⟨_, rfl, ?_⟩
      have n0_ := aM_ (Kd.R_elder' HO_495000.out (Kd.R_base ho0) hb)
      have n1_ := aM_ (k5_ (Kd.R_new' ho0 (Kd.R_lt HO_495000.out)) (bZ_ HB.out))
      have n2_ := aM_ (bB_ BK484.out hb)
      have n3_ := aM_ (bB_ BK494.out hb)
      have n4_ := aM_ (bT_ HB.out hb)
      clear HO_495000
      clear BK484
      clear BK494
      clear HB
      have HO_495000 := n0_
      have HO499 := n1_
      have BK484 := n2_
      have BK494 := n3_
      have HB := n4_
      clear n0_ n1_ n2_ n3_ n4_
      (try clear hb)
      (try clear ho0)
      obtain ⟨Ao33, co33, eo33⟩ := kS_ HO499.out
      (subst eo33)
      refine hK.out _ _ ⟨(bC_ BK494.out 0).trans rfl, (bC_ BK484.out 0).trans rfl⟩ (fun hHeld => ?_)
      clear hK K
      refine norm_ (a' := ?_) ?_ ?_; rotate_left; (show Act.put _ (some 37) _ = _; simp only [Act.put, sA_, sB_, sC_, i6_, i3_]; rfl)
      refine one_ (i := 3) (N := some 38) #[ty, ty, ty, ty, fy] rfl rfl (by kernel_rfl) (by decide) (fun K hK => ?_)
      refine goes_ Try.func10 (by kernel_rfl) rfl #[.agg #[.slice Ao22 t491.length co22], .agg #[.slice Ao33 t497.length co33]] (by rfl) rfl rfl (by (try simp only [sD_, sE_, sF_]); rfl) ?_
      with_reducible refine (laws_eqTrie.calls kj10 _ _ t491 _ _ t497 true _ ?side1 ?side2 ?side3 ?side4 A29.out).mono ?_
      (case side1 => repeat (first | exact (kR_ HO_495000.out).2.2 | (with_reducible refine Kd.C_alloc ?_ _) | (with_reducible refine Kd.C_drewN ?_ _) | (with_reducible refine Kd.C_drew ?_)))
      (case side2 => exact (kR_ HO_495000.out).2.1)
      (case side3 => repeat (first | exact (kR_ HO499.out).2.2 | (with_reducible refine Kd.C_alloc ?_ _) | (with_reducible refine Kd.C_drewN ?_ _) | (with_reducible refine Kd.C_drew ?_)))
      (case side4 => exact (kR_ HO499.out).2.1)
      rintro e w34 ⟨rfl, hb⟩
      refine ⟨_, rfl, ?_⟩
      have n0_ := aM_ (kB_ HO_495000.out hb)
      have n1_ := aM_ (kB_ HO499.out hb)
      have n2_ := aM_ (bB_ BK484.out hb)
      have n3_ := aM_ (bB_ BK494.out hb)
      have n4_ := aM_ (bT_ HB.out hb)
      clear HO_495000
      clear HO499
      clear BK484
      clear BK494
      clear HB
      have HO_495000 := n0_
      have HO499 := n1_
      have BK484 := n2_
      have BK494 := n3_
      have HB := n4_
      clear n0_ n1_ n2_ n3_ n4_
      (try clear hb)
      refine hK.out _ _ ⟨(bC_ BK494.out 0).trans rfl, (bC_ BK484.out 0).trans rfl⟩ (fun hHeld => ?_)
      clear hK K
      refine norm_ (a' := ?_) ?_ ?_; rotate_left; (show Act.put _ (some 38) _ = _; simp only [Act.put, sA_, sB_, sC_, i6_, i3_]; rfl)
      refine pure_ (i := 4) (N := some 39) (v := ?_) (a' := ?_) #[ty, ty, ty, ty, ty] rfl rfl (by kernel_rfl) (fun _ _ _ h => h) (Or.inl ⟨by rfl, ?_⟩) ?_ ?_; rotate_left; (intro w'; go_simp; with_reducible rfl); rotate_left; (simp only [Act.put, sA_, sB_, sC_, i6_, i3_]; rfl)
      refine done_ (by kernel_rfl) ?_
      try go_wp2
      go_ret
      exact ⟨by rfl, by exact HB.out⟩
     ·
      replace c30 := Bool.eq_false_iff.mpr c30
      subst c30
      have H1 : (some false) = some r := by rw [if_neg (show ¬ (false = true) by decide)] at H; exact H
      clear H
      have H := H1
      clear H1
      obtain rfl := Option.some.inj H
      try go_wp2
      have n0_ := aM_ (k3_ HO_495000.out)
      have n1_ := aM_ (b1_ BK484.out)
      have n2_ := aM_ (b1_ BK494.out)
      have n3_ := aM_ (bD_ HB.out)
      clear HO_495000
      clear BK484
      clear BK494
      clear HB
      have HO_495000 := n0_
      have BK484 := n1_
      have BK494 := n2_
      have HB := n3_
      clear n0_ n1_ n2_ n3_
      refine start_ (n := 5) (S := fun w' => w'.cell? ⟨gb494, 0, none⟩ = some (.slice Ao22 t491.length co22) ∧ w'.cell? ⟨gb484, 0, none⟩ = some (.slice A0_0 l0_0.length c0_0)) (ds := []) #[fy, fy, fy, fy, fy] (by kernel_rfl) rfl rfl ⟨(bC_ BK494.out 0).trans rfl, (bC_ BK484.out 0).trans rfl⟩ (fun hHeld => ?_)
      generalize wc.drew = w35 at HO_495000 BK484 BK494 HB hHeld ⊢
      refine take_ (i := 0) (N := some 35) (v := ?_) (a' := ?_) #[ty, fy, fy, fy, fy] rfl rfl (by kernel_rfl) (fun _ _ _ h => h) (Or.inl ⟨by rfl, ?_⟩) hHeld ?_ ?_; rotate_left; (rintro w' ⟨s0, s1⟩; go_simp; with_reducible rfl); rotate_left; (simp only [Act.put, sA_, sB_, sC_, i6_, i3_]; rfl)
      refine take_ (i := 1) (N := some 36) (v := ?_) (a' := ?_) #[ty, ty, fy, fy, fy] rfl rfl (by kernel_rfl) (fun _ _ _ h => h) (Or.inl ⟨by rfl, ?_⟩) hHeld ?_ ?_; rotate_left; (rintro w' ⟨s0, s1⟩; go_simp; with_reducible rfl); rotate_left; (simp only [Act.put, sA_, sB_, sC_, i6_, i3_]; rfl)
      refine one_ (i := 2) (N := some 37) #[ty, ty, ty, fy, fy] rfl rfl (by kernel_rfl) (by decide) (fun K hK => ?_)
      refine goes_ Try.func8 (by kernel_rfl) rfl #[.agg #[.slice A0_0 l0_0.length c0_0]] (by rfl) rfl rfl (by (try simp only [sD_, sE_, sF_]); rfl) ?_
      with_reducible refine (laws_toTrie.calls kj10 _ _ l0_0 t497 _ ?side1 ?side2 A28.out).mono ?_
      (case side1 => repeat (first | exact (k4_ HR0_0.out HB.out) | (with_reducible refine Kd.C_alloc ?_ _) | (with_reducible refine Kd.C_drewN ?_ _) | (with_reducible refine Kd.C_drew ?_)))
      (case side2 => exact HC0_0.out)
      rintro e w36 ⟨v498, rfl, ho0, hb⟩
      refine ⟨_, rfl, ?_⟩
      have n0_ := aM_ (Kd.R_elder' HO_495000.out (Kd.R_base ho0) hb)
      have n1_ := aM_ (k5_ (Kd.R_new' ho0 (Kd.R_lt HO_495000.out)) (bZ_ HB.out))
      have n2_ := aM_ (bB_ BK484.out hb)
      have n3_ := aM_ (bB_ BK494.out hb)
      have n4_ := aM_ (bT_ HB.out hb)
      clear HO_495000
      clear BK484
      clear BK494
      clear HB
      have HO_495000 := n0_
      have HO499 := n1_
      have BK484 := n2_
      have BK494 := n3_
      have HB := n4_
      clear n0_ n1_ n2_ n3_ n4_
      (try clear hb)
      (try clear ho0)
      obtain ⟨Ao37, co37, eo37⟩ := kS_ HO499.out
      (subst eo37)
      refine hK.out _ _ ⟨(bC_ BK494.out 0).trans rfl, (bC_ BK484.out 0).trans rfl⟩ (fun hHeld => ?_)
      clear hK K
      refine norm_ (a' := ?_) ?_ ?_; rotate_left; (show Act.put _ (some 37) _ = _; simp only [Act.put, sA_, sB_, sC_, i6_, i3_]; rfl)
      refine one_ (i := 3) (N := some 38) #[ty, ty, ty, ty, fy] rfl rfl (by kernel_rfl) (by decide) (fun K hK => ?_)
      refine goes_ Try.func10 (by kernel_rfl) rfl #[.agg #[.slice Ao22 t491.length co22], .agg #[.slice Ao37 t497.length co37]] (by rfl) rfl rfl (by (try simp only [sD_, sE_, sF_]); rfl) ?_
      with_reducible refine (laws_eqTrie.calls kj10 _ _ t491 _ _ t497 false _ ?side1 ?side2 ?side3 ?side4 A29.out).mono ?_
      (case side1 => repeat (first | exact (kR_ HO_495000.out).2.2 | (with_reducible refine Kd.C_alloc ?_ _) | (with_reducible refine Kd.C_drewN ?_ _) | (with_reducible refine Kd.C_drew ?_)))
      (case side2 => exact (kR_ HO_495000.out).2.1)
      (case side3 => repeat (first | exact (kR_ HO499.out).2.2 | (with_reducible refine Kd.C_alloc ?_ _) | (with_reducible refine Kd.C_drewN ?_ _) | (with_reducible refine Kd.C_drew ?_)))
      (case side4 => exact (kR_ HO499.out).2.1)
      rintro e w38 ⟨rfl, hb⟩
      refine ⟨_, rfl, ?_⟩
      have n0_ := aM_ (kB_ HO_495000.out hb)
      have n1_ := aM_ (kB_ HO499.out hb)
      have n2_ := aM_ (bB_ BK484.out hb)
      have n3_ := aM_ (bB_ BK494.out hb)
      have n4_ := aM_ (bT_ HB.out hb)
      clear HO_495000
      clear HO499
      clear BK484
      clear BK494
      clear HB
      have HO_495000 := n0_
      have HO499 := n1_
      have BK484 := n2_
      have BK494 := n3_
      have HB := n4_
      clear n0_ n1_ n2_ n3_ n4_
      (try clear hb)
      refine hK.out _ _ ⟨(bC_ BK494.out 0).trans rfl, (bC_ BK484.out 0).trans rfl⟩ (fun hHeld => ?_)
      clear hK K
      refine norm_ (a' := ?_) ?_ ?_; rotate_left; (show Act.put _ (some 38) _ = _; simp only [Act.put, sA_, sB_, sC_, i6_, i3_]; rfl)
      refine pure_ (i := 4) (N := some 39) (v := ?_) (a' := ?_) #[ty, ty, ty, ty, ty] rfl rfl (by kernel_rfl) (fun _ _ _ h => h) (Or.inl ⟨by rfl, ?_⟩) ?_ ?_; rotate_left; (intro w'; go_simp; with_reducible rfl); rotate_left; (simp only [Act.put, sA_, sB_, sC_, i6_, i3_]; rfl)
      refine done_ (by kernel_rfl) ?_
      try go_wp2
      go_ret
      exact ⟨by rfl, by exact HB.out⟩
def laws_FnExactSavedNodes.Pure : Prop := ∀ (l0_0 : List S67), l0_0.length ≤ 9223372036854775807 → ∃ k, laws_FnExactSavedNodes.f k l0_0 = some true
theorem laws_FnExactSavedNodes.walk (P : laws_FnExactSavedNodes.Pure) (w : World) (A0 : Option Addr) (c0 : Nat) (l0_0 : List S67) (hr0 : Kd.C k67 w A0 l0_0.length l0_0) (hc0 : l0_0.length ≤ c0) :
  Calls Try.prog 4 #[.agg #[.slice A0 l0_0.length c0]] w fun e w' => e = .returned (.bool true) ∧ Below w.heap.size w w' := by
 obtain ⟨k, h⟩ := P l0_0 hr0.2.1
 refine (laws_FnExactSavedNodes.calls k _ _ l0_0 true w hr0 hc0 h).mono ?_
 rintro e w' ⟨rfl, hd⟩
 exact ⟨rfl, hd⟩
end Go.Proofs.Ytnnkedeohfbkeaa.P
namespace Go.Proofs.Ytnnkedeohfbkeaa.M
theorem txt_lt_snoc : ∀ (p : Txt) (x : UInt8), p < p ++ [x]
 | [], x => List.nil_lt_cons x []
 | a :: p, x => List.cons_lt_cons_iff.2 (.inr ⟨rfl, txt_lt_snoc p x⟩)
theorem dropLast_getD (p : Txt) (h : p ≠ []) : p.dropLast ++ [p.getD (p.length - 1) 0] = p := by
 have h0 := List.length_pos_iff.2 h
 have h1 : p.length - 1 < p.length := by omega
 rw [List.dropLast_eq_take, getD_lt 0 h1, ← List.take_succ_eq_append_getElem h1, List.take_of_length_le (by omega)]
theorem txt_dropLast_lt (p : Txt) (h : p ≠ []) : p.dropLast < p := by
 have := txt_lt_snoc p.dropLast (p.getD (p.length - 1) 0)
 rwa [dropLast_getD p h] at this
def Clo (P : List Txt) : Prop := [] ∈ P ∧ ∀ p ∈ P, p ≠ [] → p.dropLast ∈ P
def begs (w : Txt) : List Txt := (List.range w.length).map fun n => w.take (n + 1)
def preL (ws : List Txt) : List Txt := setL ([] :: ws.flatMap begs)
theorem mem_begs {w p : Txt} : p ∈ begs w ↔ p ≠ [] ∧ p <+: w := by
 constructor
 ·
  intro h
  obtain ⟨n, hn, rfl⟩ := List.mem_map.1 h
  rw [List.mem_range] at hn
  exact ⟨fun e => by have := congrArg List.length e; rw [List.length_take, List.length_nil] at this; omega, List.take_prefix _ _⟩
 ·
  rintro ⟨h1, h2⟩
  have h3 := h2.length_le
  have h4 := List.length_pos_iff.2 h1
  refine List.mem_map.2 ⟨p.length - 1, List.mem_range.2 (by omega), ?_⟩
  rw [show p.length - 1 + 1 = p.length from by omega]
  exact (List.prefix_iff_eq_take.1 h2).symm
theorem mem_preL {ws : List Txt} {p : Txt} : p ∈ preL ws ↔ p = [] ∨ ∃ w ∈ ws, p ≠ [] ∧ p <+: w := by
 unfold preL
 rw [mem_setL, List.mem_cons, List.mem_flatMap]
 simp only [mem_begs]
theorem clo_preL (ws : List Txt) : Clo (preL ws) := by
 refine ⟨mem_preL.2 (.inl rfl), fun p hp hne => ?_⟩
 rcases mem_preL.1 hp with rfl | ⟨w, hw, _, h⟩
 ·
  exact absurd rfl hne
 ·
  by_cases h0 : p.dropLast = []
  ·
   rw [h0]; exact mem_preL.2 (.inl rfl)
  ·
   exact mem_preL.2 (.inr ⟨w, hw, h0, (List.dropLast_prefix p).trans h⟩)
theorem asc_preL (ws : List Txt) : Asc (preL ws) := asc_setL _
theorem self_preL {ws : List Txt} {w : Txt} (h : w ∈ ws) : w ∈ preL ws := by
 by_cases h0 : w = []
 ·
  rw [h0]; exact mem_preL.2 (.inl rfl)
 ·
  exact mem_preL.2 (.inr ⟨w, h, h0, List.prefix_refl _⟩)
theorem preL_congr {ws vs : List Txt} (h : ∀ w, w ∈ ws ↔ w ∈ vs) : preL ws = preL vs :=
 asc_ext _ _ (asc_preL _) (asc_preL _) fun y => by rw [mem_preL, mem_preL]; simp only [h]
theorem foldl_putL_len : ∀ (l acc : List Txt), (l.foldl putL acc).length ≤ acc.length + l.length
 | [], _ => Nat.le_refl _
 | x :: l, acc => by
  have h1 := foldl_putL_len l (putL acc x)
  have h2 := putL_length_le acc x
  rw [List.foldl_cons, List.length_cons]; omega
theorem setL_length_le (l : List Txt) : (setL l).length ≤ l.length := by have := foldl_putL_len l []; simpa [setL] using this
theorem begs_length (w : Txt) : (begs w).length = w.length := by simp [begs]
theorem flatMap_begs_length : ∀ (ws : List Txt), (∀ w ∈ ws, w.length ≤ 12) → (ws.flatMap begs).length ≤ 12 * ws.length
 | [], _ => by simp
 | w :: ws, h => by
  have h1 := flatMap_begs_length ws fun x hx => h x (List.mem_cons_of_mem _ hx)
  have h2 := h w (by simp)
  rw [List.flatMap_cons, List.length_append, begs_length, List.length_cons]; omega
theorem preL_length {ws : List Txt} (h : ∀ w ∈ ws, w.length ≤ 12) : (preL ws).length ≤ 12 * ws.length + 1 := by
 have h1 := flatMap_begs_length ws h
 have h2 := setL_length_le ([] :: ws.flatMap begs)
 unfold preL
 rw [List.length_cons] at h2
 omega
def placeL : List Txt → Txt → Nat
 | [], _ => 0
 | x :: r, p => if x = p then 0 else placeL r p + 1
theorem placeL_le : ∀ (P : List Txt) (p : Txt), placeL P p ≤ P.length
 | [], _ => Nat.le_refl _
 | x :: r, p => by
  have := placeL_le r p
  by_cases h : x = p
  ·
   simp [placeL, h]
  ·
   simp only [placeL, if_neg h, List.length_cons]; omega
theorem placeL_mem : ∀ {P : List Txt} {p : Txt}, p ∈ P → placeL P p < P.length ∧ P.getD (placeL P p) [] = p
 | [], _, h => by simp at h
 | x :: r, p, h => by
  by_cases h0 : x = p
  ·
   simp [placeL, h0]
  ·
   have h1 : p ∈ r := by
    rcases List.mem_cons.1 h with e | e
    ·
     exact absurd e.symm h0
    ·
     exact e
   obtain ⟨h2, h3⟩ := placeL_mem h1
   simp only [placeL, if_neg h0, List.length_cons]
   exact ⟨by omega, by simpa using h3⟩
theorem getD_mem {P : List Txt} {i : Nat} (h : i < P.length) : P.getD i [] ∈ P := by rw [getD_lt [] h]; exact List.getElem_mem h
theorem asc_get {P : List Txt} (hA : Asc P) {i j : Nat} (hj : j < P.length) (hij : i < j) : P.getD i [] < P.getD j [] := by
 have := List.pairwise_iff_getElem.1 hA i j (by omega) hj hij
 rwa [getD_lt [] hj, getD_lt [] (show i < P.length by omega)]
theorem asc_get_lt {P : List Txt} (hA : Asc P) {i j : Nat} (hi : i < P.length) (hj : j < P.length) (h : P.getD i [] < P.getD j []) : i < j := by
 rcases Nat.lt_trichotomy i j with h1 | h1 | h1
 ·
  exact h1
 ·
  subst h1; exact absurd h (txt_irrefl _)
 ·
  exact absurd (asc_get hA hi h1) (txt_asymm h)
theorem asc_inj {P : List Txt} (hA : Asc P) {i j : Nat} (hi : i < P.length) (hj : j < P.length) (h : P.getD i [] = P.getD j []) : i = j := by
 rcases Nat.lt_trichotomy i j with h1 | h1 | h1
 ·
  exact absurd (h ▸ asc_get hA hj h1) (txt_irrefl _)
 ·
  exact h1
 ·
  exact absurd (h ▸ asc_get hA hi h1) (txt_irrefl _)
theorem placeL_get {P : List Txt} (hA : Asc P) {i : Nat} (hi : i < P.length) : placeL P (P.getD i []) = i := by
 obtain ⟨h1, h2⟩ := placeL_mem (getD_mem hi)
 exact asc_inj hA h1 hi h2
theorem clo_zero {P : List Txt} (hA : Asc P) (hC : Clo P) : 0 < P.length ∧ P.getD 0 [] = [] := by
 obtain ⟨h1, h2⟩ := placeL_mem hC.1
 refine ⟨by omega, ?_⟩
 rcases Nat.eq_zero_or_pos (placeL P []) with h0 | h0
 ·
  rwa [h0] at h2
 ·
  have := asc_get hA h1 h0
  rw [h2] at this
  exact absurd this (List.not_lt_nil _)
theorem clo_pos {P : List Txt} (hA : Asc P) (hC : Clo P) {i : Nat} (hi : i < P.length) (h0 : 0 < i) : P.getD i [] ≠ [] := fun e => by
 obtain ⟨h1, h2⟩ := clo_zero hA hC
 have := asc_inj hA hi h1 (e.trans h2.symm)
 omega
theorem clo_parent {P : List Txt} (hA : Asc P) (hC : Clo P) {i : Nat} (hi : i < P.length) (h0 : 0 < i) :
  placeL P (P.getD i []).dropLast < i ∧ P.getD (placeL P (P.getD i []).dropLast) [] = (P.getD i []).dropLast := by
 have hne := clo_pos hA hC hi h0
 obtain ⟨h1, h2⟩ := placeL_mem (hC.2 _ (getD_mem hi) hne)
 exact ⟨asc_get_lt hA h1 hi (by rw [h2]; exact txt_dropLast_lt _ hne), h2⟩
def ltrOf (p : Txt) : Int := (((p.getD (p.length - 1) 0).toNat : Int) - 97) % 256
def ndL (P ws : List Txt) (p : Txt) : Int × Int × Bool := (if p = [] then -1 else ltrOf p, if p = [] then -1 else (placeL P p.dropLast : Int), decide (p ∈ ws))
def nodesL (P ws : List Txt) : List (Int × Int × Bool) := P.map (ndL P ws)
def wordL (w : Txt) : Bool := w.all letterB && decide (w.length ≤ 12)
structure OkW (ws : List Txt) : Prop where
 asc : Asc ws
 len : ws.length ≤ 40
 word : ∀ w ∈ ws, wordL w = true
theorem wordL_iff {w : Txt} : wordL w = true ↔ (∀ c ∈ w, letterB c = true) ∧ w.length ≤ 12 := by
 unfold wordL
 rw [Bool.and_eq_true, List.all_eq_true, decide_eq_true_eq]
theorem OkW.le {ws : List Txt} (h : OkW ws) : ∀ w ∈ ws, w.length ≤ 12 := fun w hw => (wordL_iff.1 (h.word w hw)).2
theorem OkW.pre {ws : List Txt} (h : OkW ws) : (preL ws).length ≤ 481 := by
 have h1 := preL_length h.le
 have h2 := h.len
 omega
theorem wordL_pre {p w : Txt} (h : p <+: w) (hw : wordL w = true) : wordL p = true := by
 obtain ⟨h1, h2⟩ := wordL_iff.1 hw
 exact wordL_iff.2 ⟨fun c hc => h1 c (h.subset hc), Nat.le_trans h.length_le h2⟩
theorem preL_word {ws : List Txt} (h : ∀ w ∈ ws, wordL w = true) {p : Txt} (hp : p ∈ preL ws) : wordL p = true := by
 rcases mem_preL.1 hp with rfl | ⟨w, hw, _, h1⟩
 ·
  rfl
 ·
  exact wordL_pre h1 (h w hw)
theorem letter_bd {c : UInt8} (h : letterB c = true) : 97 ≤ c.toNat ∧ c.toNat ≤ 122 := by simpa [letterB] using h
theorem getLast_mem {p : Txt} (h : p ≠ []) : p.getD (p.length - 1) 0 ∈ p := by
 have := List.length_pos_iff.2 h
 rw [getD_lt 0 (show p.length - 1 < p.length by omega)]
 exact List.getElem_mem _
theorem ltrOf_bd {p : Txt} (hw : wordL p = true) (h : p ≠ []) : ltrOf p = ((p.getD (p.length - 1) 0).toNat : Int) - 97 ∧ 0 ≤ ltrOf p ∧ ltrOf p ≤ 25 := by
 have h1 := letter_bd ((wordL_iff.1 hw).1 _ (getLast_mem h))
 unfold ltrOf
 omega
theorem filter_preL {ws : List Txt} (h : Asc ws) : (preL ws).filter (fun p => decide (p ∈ ws)) = ws := by
 refine asc_ext _ _ ((asc_preL ws).filter _) h fun y => ?_
 rw [List.mem_filter, decide_eq_true_eq]
 exact ⟨fun h => h.2, fun h => ⟨self_preL h, h⟩⟩
def kidsL (P : List Txt) (p : Txt) : List Txt := P.filter fun q => decide (q ≠ [] ∧ q.dropLast = p)
def stayL (P ws : List Txt) (p : Txt) : Bool := decide (p = []) || decide (p ∈ ws) || decide ((kidsL P p).length ≠ 1)
def stayQ (P ws : List Txt) : List Txt := P.filter (stayL P ws)
def upF (P ws : List Txt) : Nat → Txt → Txt
 | 0, _ => []
 | n + 1, p => if stayL P ws p.dropLast = true then p.dropLast else upF P ws n p.dropLast
def upL (P ws : List Txt) (p : Txt) : Txt := upF P ws p.length p
theorem stay_nil (P ws : List Txt) : stayL P ws [] = true := by unfold stayL; simp
theorem upF_spec {P : List Txt} (ws : List Txt) (hC : Clo P) : ∀ (n : Nat) (p : Txt), p.length = n → p ∈ P → p ≠ [] → upF P ws n p <+: p ∧ (upF P ws n p).length < p.length ∧ upF P ws n p ∈ P ∧ stayL P ws (upF P ws n p) = true
 | 0, p, h, _, hne => absurd (List.eq_nil_of_length_eq_zero h) hne
 | n + 1, p, h, hp, hne => by
  have hd := hC.2 p hp hne
  have hl : p.dropLast.length = n := by rw [List.length_dropLast]; omega
  rw [upF]
  by_cases hs : stayL P ws p.dropLast = true
  ·
   rw [if_pos hs]
   exact ⟨List.dropLast_prefix p, by omega, hd, hs⟩
  ·
   rw [if_neg hs]
   have hne2 : p.dropLast ≠ [] := fun e => hs (by rw [e]; exact stay_nil P ws)
   obtain ⟨h1, h2, h3, h4⟩ := upF_spec ws hC n p.dropLast hl hd hne2
   exact ⟨h1.trans (List.dropLast_prefix p), by omega, h3, h4⟩
theorem upL_spec {P : List Txt} (ws : List Txt) (hC : Clo P) {p : Txt} (hp : p ∈ P) (hne : p ≠ []) : upL P ws p <+: p ∧ (upL P ws p).length < p.length ∧ upL P ws p ∈ P ∧ stayL P ws (upL P ws p) = true := upF_spec ws hC _ p rfl hp hne
theorem prefix_lt {p q : Txt} (h : p <+: q) (hl : p.length < q.length) : p < q := by
 obtain ⟨r, rfl⟩ := h
 cases r with
 | nil => rw [List.append_nil] at hl; omega
 | cons x r =>
  induction p with
  | nil => exact List.nil_lt_cons x r
  | cons a p ih => exact List.cons_lt_cons_iff.2 (.inr ⟨rfl, ih (by simp)⟩)
theorem asc_stayQ {P : List Txt} (ws : List Txt) (hA : Asc P) : Asc (stayQ P ws) := hA.filter _
theorem mem_stayQ {P ws : List Txt} {p : Txt} : p ∈ stayQ P ws ↔ p ∈ P ∧ stayL P ws p = true := List.mem_filter
theorem nil_stayQ {P : List Txt} (ws : List Txt) (hC : Clo P) : [] ∈ stayQ P ws := mem_stayQ.2 ⟨hC.1, stay_nil P ws⟩
theorem up_stayQ {P : List Txt} (ws : List Txt) (hC : Clo P) {p : Txt} (hp : p ∈ stayQ P ws) (hne : p ≠ []) : upL P ws p ∈ stayQ P ws := by
 obtain ⟨_, _, h3, h4⟩ := upL_spec ws hC (mem_stayQ.1 hp).1 hne
 exact mem_stayQ.2 ⟨h3, h4⟩
theorem stayQ_zero {P : List Txt} (ws : List Txt) (hA : Asc P) (hC : Clo P) : 0 < (stayQ P ws).length ∧ (stayQ P ws).getD 0 [] = [] := by
 obtain ⟨h1, h2⟩ := placeL_mem (nil_stayQ ws hC)
 refine ⟨by omega, ?_⟩
 rcases Nat.eq_zero_or_pos (placeL (stayQ P ws) []) with h0 | h0
 ·
  rwa [h0] at h2
 ·
  have := asc_get (asc_stayQ ws hA) h1 h0
  rw [h2] at this
  exact absurd this (List.not_lt_nil _)
theorem stayQ_pos {P : List Txt} (ws : List Txt) (hA : Asc P) (hC : Clo P) {i : Nat} (hi : i < (stayQ P ws).length) (h0 : 0 < i) : (stayQ P ws).getD i [] ≠ [] := fun e => by
 obtain ⟨h1, h2⟩ := stayQ_zero ws hA hC
 have := asc_inj (asc_stayQ ws hA) hi h1 (e.trans h2.symm)
 omega
theorem stayQ_parent {P : List Txt} (ws : List Txt) (hA : Asc P) (hC : Clo P) {i : Nat} (hi : i < (stayQ P ws).length) (h0 : 0 < i) :
  placeL (stayQ P ws) (upL P ws ((stayQ P ws).getD i [])) < i ∧ (stayQ P ws).getD (placeL (stayQ P ws) (upL P ws ((stayQ P ws).getD i []))) [] = upL P ws ((stayQ P ws).getD i []) := by
 have hne := stayQ_pos ws hA hC hi h0
 have hm := getD_mem hi
 obtain ⟨h1, h2⟩ := placeL_mem (up_stayQ ws hC hm hne)
 obtain ⟨u1, u2, _, _⟩ := upL_spec ws hC (mem_stayQ.1 hm).1 hne
 exact ⟨asc_get_lt (asc_stayQ ws hA) h1 hi (by rw [h2]; exact prefix_lt u1 u2), h2⟩
def brL (P ws : List Txt) (p : Txt) : Txt × Int × Bool := (if p = [] then [] else p.drop (upL P ws p).length, if p = [] then -1 else (placeL (stayQ P ws) (upL P ws p) : Int), decide (p ∈ ws))
def brsL (P ws : List Txt) : List (Txt × Int × Bool) := (stayQ P ws).map (brL P ws)
theorem up_append {P : List Txt} (ws : List Txt) (hC : Clo P) {p : Txt} (hp : p ∈ P) (hne : p ≠ []) : upL P ws p ++ p.drop (upL P ws p).length = p := by
 obtain ⟨⟨r, hr⟩, _⟩ := upL_spec ws hC hp hne
 have : p.drop (upL P ws p).length = r := by
  have := congrArg (List.drop (upL P ws p).length) hr
  rw [List.drop_left] at this
  exact this.symm
 rw [this, hr]
theorem drop_ne {P : List Txt} (ws : List Txt) (hC : Clo P) {p : Txt} (hp : p ∈ P) (hne : p ≠ []) : p.drop (upL P ws p).length ≠ [] := fun e => by
 obtain ⟨_, h2, _⟩ := upL_spec ws hC hp hne
 have := congrArg List.length e
 rw [List.length_drop, List.length_nil] at this
 omega
theorem filter_stayQ {ws : List Txt} (h : Asc ws) : (stayQ (preL ws) ws).filter (fun p => decide (p ∈ ws)) = ws := by
 refine asc_ext _ _ ((asc_stayQ ws (asc_preL ws)).filter _) h fun y => ?_
 rw [List.mem_filter, decide_eq_true_eq]
 refine ⟨fun h => h.2, fun h => ⟨mem_stayQ.2 ⟨self_preL h, ?_⟩, h⟩⟩
 unfold stayL
 rw [decide_eq_true h, Bool.or_true, Bool.true_or]
def hasPre (s p : List UInt8) : Bool := s.take p.length == p
theorem hasPre_pre {s p : Txt} : hasPre s p = true ↔ p <+: s := by
 unfold hasPre
 rw [beq_iff_eq]
 exact ⟨fun h => h ▸ List.take_prefix _ _, fun h => (List.prefix_iff_eq_take.1 h).symm⟩
def behL (ws : List Txt) (p : Txt) : List Txt := (ws.filter fun w => hasPre w p).map fun w => w.drop p.length
def succL (b : List Txt) (c : UInt8) : List Txt := (b.filter fun w => hasPre w [c]).map fun w => w.drop 1
theorem mem_behL {ws : List Txt} {p x : Txt} : x ∈ behL ws p ↔ p ++ x ∈ ws := by
 unfold behL
 rw [List.mem_map]
 constructor
 ·
  rintro ⟨w, hw, rfl⟩
  obtain ⟨h1, h2⟩ := List.mem_filter.1 hw
  obtain ⟨r, rfl⟩ := hasPre_pre.1 h2
  rw [List.drop_left]
  exact h1
 ·
  intro h
  exact ⟨p ++ x, List.mem_filter.2 ⟨h, hasPre_pre.2 (List.prefix_append _ _)⟩, List.drop_left⟩
theorem mem_succL {b : List Txt} {c : UInt8} {x : Txt} : x ∈ succL b c ↔ c :: x ∈ b := mem_behL (p := [c])
theorem append_ltL : ∀ (p : Txt) {x y : Txt}, p ++ x < p ++ y → x < y
 | [], _, _, h => h
 | a :: p, x, y, h => by
  rcases List.cons_lt_cons_iff.1 h with h | ⟨_, h⟩
  ·
   exact absurd h (UInt8.lt_irrefl _)
  ·
   exact append_ltL p h
theorem lt_appendL : ∀ (p : Txt) {x y : Txt}, x < y → p ++ x < p ++ y
 | [], _, _, h => h
 | _ :: p, _, _, h => List.cons_lt_cons_iff.2 (.inr ⟨rfl, lt_appendL p h⟩)
theorem asc_behL {ws : List Txt} (h : Asc ws) (p : Txt) : Asc (behL ws p) := by
 unfold behL Asc
 rw [List.pairwise_map]
 refine List.Pairwise.imp_of_mem ?_ (List.Pairwise.filter _ h)
 intro a b ha hb hab
 obtain ⟨r, rfl⟩ := hasPre_pre.1 (List.mem_filter.1 ha).2
 obtain ⟨q, rfl⟩ := hasPre_pre.1 (List.mem_filter.1 hb).2
 rw [List.drop_left, List.drop_left]
 exact append_ltL p hab
theorem asc_succL {b : List Txt} (h : Asc b) (c : UInt8) : Asc (succL b c) := asc_behL h [c]
theorem behL_nil (ws : List Txt) (h : Asc ws) : behL ws [] = ws := asc_ext _ _ (asc_behL h _) h fun y => by rw [mem_behL]; rfl
theorem behL_snoc {ws : List Txt} (h : Asc ws) (p : Txt) (c : UInt8) : behL ws (p ++ [c]) = succL (behL ws p) c :=
 asc_ext _ _ (asc_behL h _) (asc_succL (asc_behL h _) _) fun y => by rw [mem_behL, mem_succL, mem_behL, List.append_assoc]; rfl
def letsL (b : List Txt) : List UInt8 := ((List.range 26).map fun n => UInt8.ofNat (97 + n)).filter fun c => b.any fun w => hasPre w [c]
structure Res (n : Nat) (b : List Txt) : Prop where
 asc : Asc b
 let_ : ∀ w ∈ b, ∀ c ∈ w, letterB c = true
 len : ∀ w ∈ b, w.length ≤ n
theorem mem_letsL {n : Nat} {b : List Txt} (h : Res n b) {c : UInt8} : c ∈ letsL b ↔ ∃ x, c :: x ∈ b := by
 unfold letsL
 rw [List.mem_filter, List.any_eq_true]
 constructor
 ·
  rintro ⟨_, w, hw, hp⟩
  obtain ⟨r, rfl⟩ := hasPre_pre.1 hp
  exact ⟨r, hw⟩
 ·
  rintro ⟨x, hx⟩
  refine ⟨?_, _, hx, hasPre_pre.2 ⟨x, rfl⟩⟩
  have h1 := letter_bd (h.let_ _ hx c List.mem_cons_self)
  refine List.mem_map.2 ⟨c.toNat - 97, List.mem_range.2 (by omega), ?_⟩
  rw [show 97 + (c.toNat - 97) = c.toNat from by omega]
  simp
theorem letsL_ne {n : Nat} {b : List Txt} (h : Res n b) {c : UInt8} : c ∈ letsL b ↔ succL b c ≠ [] := by
 rw [mem_letsL h]
 constructor
 ·
  rintro ⟨x, hx⟩ e
  have := mem_succL.2 hx
  rw [e] at this
  cases this
 ·
  intro hne
  obtain ⟨x, hx⟩ := List.exists_mem_of_ne_nil _ hne
  exact ⟨x, mem_succL.1 hx⟩
theorem letsL_let {b : List Txt} {c : UInt8} (h : c ∈ letsL b) : 97 ≤ c.toNat ∧ c.toNat ≤ 122 := by
 obtain ⟨n, hn, rfl⟩ := List.mem_map.1 (List.mem_filter.1 h).1
 rw [List.mem_range] at hn
 simp
 omega
theorem letsL_asc (b : List Txt) : (letsL b).Pairwise (· < ·) := by
 unfold letsL
 refine List.Pairwise.filter _ ?_
 rw [List.pairwise_map]
 refine List.Pairwise.imp_of_mem ?_ (List.pairwise_lt_range (n := 26))
 intro a b ha hb hab
 rw [List.mem_range] at ha hb
 rw [UInt8.lt_iff_toNat_lt]
 simp
 omega
theorem letsL_length (b : List Txt) : (letsL b).length ≤ 26 := by
 unfold letsL
 refine Nat.le_trans (List.length_filter_le _ _) ?_
 simp
theorem Res.succ {n : Nat} {b : List Txt} (h : Res (n + 1) b) (c : UInt8) : Res n (succL b c) := by
 refine ⟨asc_succL h.asc c, fun w hw x hx => h.let_ _ (mem_succL.1 hw) x (List.mem_cons_of_mem _ hx), fun w hw => ?_⟩
 have := h.len _ (mem_succL.1 hw)
 rw [List.length_cons] at this
 omega
theorem Res.mono {n m : Nat} {b : List Txt} (h : Res n b) (hm : n ≤ m) : Res m b := ⟨h.asc, h.let_, fun w hw => Nat.le_trans (h.len w hw) hm⟩
theorem Res.zero_lets {b : List Txt} (h : Res 0 b) : letsL b = [] := by
 rw [List.eq_nil_iff_forall_not_mem]
 intro c hc
 obtain ⟨x, hx⟩ := (mem_letsL h).1 hc
 have := h.len _ hx
 simp at this
theorem Res.beh {ws : List Txt} (h : OkW ws) (p : Txt) : Res (12 - p.length) (behL ws p) := by
 refine ⟨asc_behL h.asc p, fun w hw c hc => ?_, fun w hw => ?_⟩
 ·
  exact (wordL_iff.1 (h.word _ (mem_behL.1 hw))).1 c (List.mem_append_right _ hc)
 ·
  have := h.le _ (mem_behL.1 hw)
  rw [List.length_append] at this
  omega
theorem Res.beh12 {ws : List Txt} (h : OkW ws) (p : Txt) : Res 12 (behL ws p) := (Res.beh h p).mono (by omega)
theorem decL {n : Nat} {b : List Txt} (h : Res n b) : b = (if [] ∈ b then [[]] else []) ++ (letsL b).flatMap fun c => (succL b c).map (c :: ·) := by
 refine asc_ext _ _ h.asc ?_ fun y => ?_
 ·
  unfold Asc
  rw [List.pairwise_append]
  refine ⟨by split <;> simp, ?_, ?_⟩
  ·
   rw [List.pairwise_flatMap]
   refine ⟨fun c _ => ?_, List.Pairwise.imp ?_ (letsL_asc b)⟩
   ·
    rw [List.pairwise_map]
    exact List.Pairwise.imp (fun hab => List.cons_lt_cons_iff.2 (.inr ⟨rfl, hab⟩)) (asc_succL h.asc c)
   ·
    intro c d hcd x hx y hy
    obtain ⟨x', _, rfl⟩ := List.mem_map.1 hx
    obtain ⟨y', _, rfl⟩ := List.mem_map.1 hy
    exact List.cons_lt_cons_iff.2 (.inl hcd)
  ·
   intro a ha x hx
   obtain rfl : a = [] := by
    split at ha
    ·
     exact List.mem_singleton.1 ha
    ·
     cases ha
   obtain ⟨c, _, hx⟩ := List.mem_flatMap.1 hx
   obtain ⟨x', _, rfl⟩ := List.mem_map.1 hx
   exact List.nil_lt_cons _ _
 ·
  rw [List.mem_append, List.mem_flatMap]
  constructor
  ·
   intro hy
   cases y with
   | nil => left; rw [if_pos hy]; exact List.mem_singleton.2 rfl
   | cons c y => exact .inr ⟨c, (mem_letsL h).2 ⟨y, hy⟩, List.mem_map.2 ⟨y, mem_succL.2 hy, rfl⟩⟩
  ·
   rintro (hy | ⟨c, _, hy⟩)
   ·
    split at hy
    ·
     rename_i h0; rw [List.mem_singleton.1 hy]; exact h0
    ·
     cases hy
   ·
    obtain ⟨x, hx, rfl⟩ := List.mem_map.1 hy
    exact mem_succL.1 hx
theorem res_eq {n m : Nat} {a b : List Txt} (ha : Res n a) (hb : Res m b) (h0 : decide ([] ∈ a) = decide ([] ∈ b)) (h1 : letsL a = letsL b) (h2 : ∀ c ∈ letsL a, succL a c = succL b c) : a = b := by
 rw [decL ha, decL hb, ← h1]
 have e0 : ([] ∈ a) ↔ ([] ∈ b) := by simpa using h0
 congr 1
 ·
  by_cases h : [] ∈ a
  ·
   rw [if_pos h, if_pos (e0.1 h)]
  ·
   rw [if_neg h, if_neg (fun k => h (e0.2 k))]
 ·
  rw [List.flatMap_def, List.flatMap_def]
  congr 1
  refine List.map_congr_left fun c hc => ?_
  rw [h2 c hc]
def cntL : Nat → List Txt → Nat
 | 0, _ => 1
 | n + 1, b => 1 + ((letsL b).map fun c => cntL n (succL b c)).sum
theorem cntL_le : ∀ (n : Nat) (b : List Txt), Res n b → cntL n b ≤ 1 + (b.map List.length).sum
 | 0, b, _ => by simp [cntL]
 | n + 1, b, h => by
  have key : ∀ l : List UInt8, (∀ c ∈ l, c ∈ letsL b) → (l.map fun c => cntL n (succL b c)).sum ≤ ((l.flatMap fun c => (succL b c).map (c :: ·)).map List.length).sum := by
   intro l
   induction l with
   | nil => intro _; simp
   | cons c l ih =>
    intro hl
    have h1 := ih fun x hx => hl x (List.mem_cons_of_mem _ hx)
    have h2 := cntL_le n (succL b c) (h.succ c)
    have h3 := (letsL_ne h).1 (hl c List.mem_cons_self)
    have h4 : (((succL b c).map (c :: ·)).map List.length).sum = ((succL b c).map List.length).sum + (succL b c).length := by
     rw [List.map_map]
     induction succL b c with
     | nil => rfl
     | cons x r ih => simp only [List.map_cons, List.sum_cons, List.length_cons, ih, Function.comp]; omega
    have h5 := List.length_pos_iff.2 h3
    rw [List.map_cons, List.sum_cons, List.flatMap_cons, List.map_append, List.sum_append, h4]
    omega
  have h1 := key (letsL b) fun _ hc => hc
  have h2 := congrArg (fun l : List Txt => (l.map List.length).sum) (decL h)
  simp only [List.map_append, List.sum_append] at h2
  rw [cntL, h2]
  omega
theorem cntL_mono : ∀ (n : Nat) (b : List Txt), Res n b → cntL (n + 1) b = cntL n b
 | 0, b, h => by simp [cntL, h.zero_lets]
 | n + 1, b, h => by
  rw [cntL, cntL]
  congr 2
  exact List.map_congr_left fun c _ => cntL_mono n _ (h.succ c)
theorem sum_len_le : ∀ (ws : List Txt) (m : Nat), (∀ w ∈ ws, w.length ≤ m) → (ws.map List.length).sum ≤ ws.length * m
 | [], _, _ => by simp
 | w :: ws, m, h => by
  have h1 := sum_len_le ws m fun x hx => h x (List.mem_cons_of_mem _ hx)
  have h2 := h w List.mem_cons_self
  rw [List.map_cons, List.sum_cons, List.length_cons, Nat.succ_mul]
  omega
theorem cntL_ok {ws : List Txt} (h : OkW ws) (p : Txt) : cntL 12 (behL ws p) ≤ 481 := by
 have h1 := cntL_le 12 _ (Res.beh12 h p)
 have h2 := sum_len_le _ 12 (Res.beh12 h p).len
 have h3 : (behL ws p).length ≤ 40 := by
  unfold behL
  rw [List.length_map]
  exact Nat.le_trans (List.length_filter_le _ _) h.len
 have h4 : (behL ws p).length * 12 ≤ 40 * 12 := Nat.mul_le_mul_right _ h3
 omega
def firstL : List (List Txt) → List (List Txt) → List (List Txt)
 | acc, [] => acc
 | acc, x :: r => firstL (if x ∈ acc then acc else acc ++ [x]) r
theorem firstL_pre : ∀ (r acc : List (List Txt)), acc <+: firstL acc r
 | [], acc => List.prefix_refl _
 | x :: r, acc => by
  rw [firstL]
  refine List.IsPrefix.trans ?_ (firstL_pre r _)
  split
  ·
   exact List.prefix_refl _
  ·
   exact List.prefix_append _ _
theorem mem_firstL : ∀ (r acc : List (List Txt)) (y : List Txt), y ∈ firstL acc r ↔ y ∈ acc ∨ y ∈ r
 | [], acc, y => by simp [firstL]
 | x :: r, acc, y => by
  rw [firstL, mem_firstL r, List.mem_cons]
  by_cases h : x ∈ acc
  ·
   rw [if_pos h]
   constructor
   ·
    rintro (h1 | h1)
    ·
     exact .inl h1
    ·
     exact .inr (.inr h1)
   ·
    rintro (h1 | rfl | h1)
    ·
     exact .inl h1
    ·
     exact .inl h
    ·
     exact .inr h1
  ·
   rw [if_neg h, List.mem_append, List.mem_singleton]
   constructor
   ·
    rintro ((h1 | h1) | h1)
    ·
     exact .inl h1
    ·
     exact .inr (.inl h1)
    ·
     exact .inr (.inr h1)
   ·
    rintro (h1 | h1 | h1)
    ·
     exact .inl (.inl h1)
    ·
     exact .inl (.inr h1)
    ·
     exact .inr h1
theorem firstL_length : ∀ (r acc : List (List Txt)), (firstL acc r).length ≤ acc.length + r.length
 | [], acc => Nat.le_refl _
 | x :: r, acc => by
  rw [firstL]
  have := firstL_length r (if x ∈ acc then acc else acc ++ [x])
  refine Nat.le_trans this ?_
  split
  ·
   rw [List.length_cons]; omega
  ·
   rw [List.length_append, List.length_cons]; simp; omega
theorem firstL_nodup : ∀ (r acc : List (List Txt)), acc.Nodup → (firstL acc r).Nodup
 | [], _, h => h
 | x :: r, acc, h => by
  rw [firstL]
  refine firstL_nodup r _ ?_
  split
  ·
   exact h
  ·
   rename_i hx
   rw [List.nodup_append]
   exact ⟨h, by simp, fun a ha b hb e => hx (by rw [← List.mem_singleton.1 hb, ← e]; exact ha)⟩
theorem firstL_snoc (r acc : List (List Txt)) (x : List Txt) : firstL acc (r ++ [x]) = if x ∈ firstL acc r then firstL acc r else firstL acc r ++ [x] := by
 induction r generalizing acc with
 | nil => rfl
 | cons y r ih => rw [List.cons_append, firstL, firstL, ih]
theorem idx_pre {a b : List (List Txt)} (h : a <+: b) {x : List Txt} (hx : x ∈ a) : b.idxOf x = a.idxOf x := by
 obtain ⟨r, rfl⟩ := h
 rw [List.idxOf_append, if_pos hx]
theorem idx_new {a : List (List Txt)} {x : List Txt} (hx : x ∉ a) : (a ++ [x]).idxOf x = a.length := by
 rw [List.idxOf_append, if_neg hx]
 simp
def resL (ws : List Txt) : List (List Txt) := (preL ws).map (behL ws)
def dL (ws : List Txt) : List (List Txt) := firstL [] (resL ws)
def stL (D : List (List Txt)) (b : List Txt) : Bool × List (Int × Int) := (decide ([] ∈ b), (letsL b).map fun c => ((c.toNat : Int) - 97, (D.idxOf (succL b c) : Int)))
def machL (ws : List Txt) : List (Bool × List (Int × Int)) := (dL ws).map (stL (dL ws))
theorem resL_length (ws : List Txt) : (resL ws).length = (preL ws).length := List.length_map _
theorem dL_length {ws : List Txt} (h : OkW ws) : (dL ws).length ≤ 481 := by
 have h1 := firstL_length (resL ws) []
 rw [resL_length] at h1
 have h2 := h.pre
 unfold dL
 simp at h1
 omega
theorem mem_dL {ws : List Txt} {b : List Txt} : b ∈ dL ws ↔ ∃ p ∈ preL ws, behL ws p = b := by
 unfold dL
 rw [mem_firstL, resL, List.mem_map]
 simp
theorem dL_res {ws : List Txt} (h : OkW ws) {b : List Txt} (hb : b ∈ dL ws) : Res 12 b := by
 obtain ⟨p, _, rfl⟩ := mem_dL.1 hb
 exact Res.beh12 h p
theorem pre_snoc {ws : List Txt} {p : Txt} {c : UInt8} : p ++ [c] ∈ preL ws ↔ ∃ x, c :: x ∈ behL ws p := by
 rw [mem_preL]
 constructor
 ·
  rintro (h | ⟨w, hw, _, x, rfl⟩)
  ·
   simp at h
  ·
   exact ⟨x, mem_behL.2 (by simpa using hw)⟩
 ·
  rintro ⟨x, hx⟩
  exact .inr ⟨_, mem_behL.1 hx, by simp, ⟨x, by simp⟩⟩
theorem dL_succ {ws : List Txt} (h : OkW ws) {b : List Txt} (hb : b ∈ dL ws) {c : UInt8} (hc : c ∈ letsL b) : succL b c ∈ dL ws := by
 obtain ⟨p, hp, rfl⟩ := mem_dL.1 hb
 refine mem_dL.2 ⟨p ++ [c], pre_snoc.2 ((mem_letsL (Res.beh12 h p)).1 hc), behL_snoc h.asc p c⟩
theorem nil_preL (ws : List Txt) : [] ∈ preL ws := (clo_preL ws).1
theorem self_dL {ws : List Txt} (h : OkW ws) : ws ∈ dL ws := mem_dL.2 ⟨[], nil_preL ws, behL_nil ws h.asc⟩
theorem resL_zero {ws : List Txt} (h : OkW ws) : ∃ r, resL ws = ws :: r := by
 obtain ⟨h1, h2⟩ := clo_zero (asc_preL ws) (clo_preL ws)
 unfold resL
 cases hP : preL ws with
 | nil => rw [hP] at h1; simp at h1
 | cons p r =>
  rw [hP] at h2
  obtain rfl : p = [] := by simpa using h2
  exact ⟨r.map (behL ws), by rw [List.map_cons, behL_nil ws h.asc]⟩
theorem idx_zero {ws : List Txt} (h : OkW ws) : (dL ws).idxOf ws = 0 := by
 obtain ⟨r, hr⟩ := resL_zero h
 unfold dL
 rw [hr, firstL, if_neg (by simp)]
 rw [idx_pre (firstL_pre r _) (by simp)]
 simp
theorem kidsL_eq {ws : List Txt} (h : OkW ws) (p : Txt) : kidsL (preL ws) p = (letsL (behL ws p)).map fun c => p ++ [c] := by
 refine asc_ext _ _ ((asc_preL ws).filter _) ?_ fun q => ?_
 ·
  unfold Asc
  rw [List.pairwise_map]
  refine List.Pairwise.imp (fun hab => lt_appendL p ?_) (letsL_asc _)
  exact List.cons_lt_cons_iff.2 (.inl hab)
 ·
  unfold kidsL
  rw [List.mem_filter, decide_eq_true_eq, List.mem_map]
  constructor
  ·
   rintro ⟨hq, hne, rfl⟩
   have e := List.dropLast_concat_getLast hne
   refine ⟨q.getLast hne, (mem_letsL (Res.beh12 h _)).2 (pre_snoc.1 (by rw [e]; exact hq)), e⟩
  ·
   rintro ⟨c, hc, rfl⟩
   exact ⟨pre_snoc.2 ((mem_letsL (Res.beh12 h p)).1 hc), by simp, by simp⟩
def lastL : List (List Txt) → List Txt → Nat
 | [], _ => 0
 | _ :: r, b => if b ∈ r then lastL r b + 1 else 0
theorem lastL_spec : ∀ {l : List (List Txt)} {b : List Txt}, b ∈ l → lastL l b < l.length ∧ l.getD (lastL l b) [] = b ∧ ∀ j, lastL l b < j → j < l.length → l.getD j [] ≠ b
 | [], _, h => by simp at h
 | x :: r, b, h => by
  by_cases hb : b ∈ r
  ·
   obtain ⟨h1, h2, h3⟩ := lastL_spec hb
   simp only [lastL, if_pos hb]
   refine ⟨by rw [List.length_cons]; omega, by rw [List.getD_cons_succ]; exact h2, fun j hj hl => ?_⟩
   obtain ⟨j, rfl⟩ : ∃ m, j = m + 1 := ⟨j - 1, by omega⟩
   rw [List.getD_cons_succ]
   rw [List.length_cons] at hl
   exact h3 j (by omega) (by omega)
  ·
   simp only [lastL, if_neg hb]
   have hx : b = x := by
    rcases List.mem_cons.1 h with e | e
    ·
     exact e
    ·
     exact absurd e hb
   refine ⟨by simp, by rw [List.getD_cons_zero, hx], fun j hj hl => ?_⟩
   obtain ⟨j, rfl⟩ : ∃ m, j = m + 1 := ⟨j - 1, by omega⟩
   rw [List.getD_cons_succ]
   rw [List.length_cons] at hl
   intro e
   apply hb
   rw [← e, List.getD_eq_getElem?_getD, List.getElem?_eq_getElem (show j < r.length by omega)]
   exact List.getElem_mem _
theorem getR_mem {R : List (List Txt)} {i : Nat} (h : i < R.length) : R.getD i [] ∈ R := by rw [getD_lt [] h]; exact List.getElem_mem h
theorem lastL_ge {R : List (List Txt)} {i : Nat} (h : i < R.length) : i ≤ lastL R (R.getD i []) := by
 obtain ⟨h1, h2, h3⟩ := lastL_spec (getR_mem h)
 rcases Nat.lt_or_ge (lastL R (R.getD i [])) i with h4 | h4
 ·
  exact absurd rfl (h3 i h4 h)
 ·
  exact h4
theorem lastL_inj {R : List (List Txt)} {i j : Nat} (hi : i < R.length) (hj : j < R.length) : lastL R (R.getD i []) = lastL R (R.getD j []) ↔ R.getD i [] = R.getD j [] := by
 refine ⟨fun e => ?_, fun e => by rw [e]⟩
 rw [← (lastL_spec (getR_mem hi)).2.1, e, (lastL_spec (getR_mem hj)).2.1]
def joinT : List Txt → Txt
 | [] => []
 | w :: r => w ++ 44 :: joinT r
theorem split44 : ∀ (w v x y : Txt), (44 : UInt8) ∉ w → (44 : UInt8) ∉ v → w ++ 44 :: x = v ++ 44 :: y → w = v ∧ x = y
 | [], [], x, y, _, _, h => ⟨rfl, by simpa using h⟩
 | [], b :: v, x, y, _, hv, h => by
  rw [List.nil_append, List.cons_append] at h
  injection h with h1 h2
  exact absurd (h1 ▸ List.mem_cons_self) hv
 | a :: w, [], x, y, hw, _, h => by
  rw [List.nil_append, List.cons_append] at h
  injection h with h1 h2
  exact absurd (h1 ▸ List.mem_cons_self) hw
 | a :: w, b :: v, x, y, hw, hv, h => by
  rw [List.cons_append, List.cons_append] at h
  injection h with h1 h2
  obtain ⟨h3, h4⟩ := split44 w v x y (fun m => hw (List.mem_cons_of_mem _ m)) (fun m => hv (List.mem_cons_of_mem _ m)) h2
  exact ⟨by rw [h1, h3], h4⟩
theorem joinT_inj : ∀ (a b : List Txt), (∀ w ∈ a, (44 : UInt8) ∉ w) → (∀ w ∈ b, (44 : UInt8) ∉ w) → joinT a = joinT b → a = b
 | [], [], _, _, _ => rfl
 | [], w :: r, _, _, h => by simp [joinT] at h
 | w :: r, [], _, _, h => by simp [joinT] at h
 | w :: r, v :: s, ha, hb, h => by
  obtain ⟨h1, h2⟩ := split44 w v _ _ (ha w List.mem_cons_self) (hb v List.mem_cons_self) h
  rw [h1, joinT_inj r s (fun x hx => ha x (List.mem_cons_of_mem _ hx)) (fun x hx => hb x (List.mem_cons_of_mem _ hx)) h2]
theorem joinT_length : ∀ (a : List Txt) (m : Nat), (∀ w ∈ a, w.length ≤ m) → (joinT a).length ≤ a.length * (m + 1)
 | [], _, _ => by simp [joinT]
 | w :: r, m, h => by
  have h1 := joinT_length r m fun x hx => h x (List.mem_cons_of_mem _ hx)
  have h2 := h w List.mem_cons_self
  rw [joinT, List.length_append, List.length_cons, List.length_cons, Nat.succ_mul]
  omega
theorem no44 {n : Nat} {b : List Txt} (h : Res n b) : ∀ w ∈ b, (44 : UInt8) ∉ w := fun w hw hm => by
 have := letter_bd (h.let_ w hw 44 hm)
 simp at this
theorem joinT_res {n m : Nat} {a b : List Txt} (ha : Res n a) (hb : Res m b) : joinT a = joinT b ↔ a = b := ⟨joinT_inj a b (no44 ha) (no44 hb), fun e => by rw [e]⟩
end Go.Proofs.Ytnnkedeohfbkeaa.M
namespace Go.Proofs.Ytnnkedeohfbkeaa.M
open Go.RowKit Go.Proofs.YtnnkedeohfbkeaaW.PrintWords
theorem rdB (l : List Txt) (n : Nat) (h : n < l.length) : rdOf ByteArray.empty (l.map B) (n : Int) = B (l.getD n []) := by
 simp [rdOf, List.getD_eq_getElem?_getD, h]
theorem exBs (l : List ByteArray) : ∃ m : List Txt, l = m.map B := ⟨l.map fun x => x.data.toList, by rw [List.map_map]; exact ((List.map_congr_left (fun x _ => B_data x)).trans (List.map_id _)).symm⟩
theorem map_B_inj {l m : List Txt} (h : l.map B = m.map B) : l = m := (List.map_inj_right (fun _ _ h => B_inj h)).1 h
end Go.Proofs.Ytnnkedeohfbkeaa.M
namespace Go.Proofs.Ytnnkedeohfbkeaa.M
open Go.Lib
theorem keeps_iff (d : Array Txt) (j : Nat) : keeps d j = true ↔ (j = 0 ∨ d[j]! ≠ d[j - 1]!) := by simp [keeps]
theorem mem_compact (zs : List Txt) (y : Txt) : y ∈ compact zs ↔ y ∈ zs := by
 unfold compact compactUpTo
 simp only [List.mem_map, List.mem_filter, List.mem_range]
 constructor
 ·
  rintro ⟨j, ⟨hj, _⟩, rfl⟩
  rw [getElem!_pos zs.toArray j (by simpa using hj)]
  simp
 ·
  intro hy
  have hex : ∃ n, ∃ h : n < zs.length, zs[n] = y := by
   obtain ⟨n, h, e⟩ := List.mem_iff_getElem.1 hy
   exact ⟨n, h, e⟩
  have key : ∀ n, (∃ h : n < zs.length, zs[n] = y) → ∃ m, m < zs.length ∧ keeps zs.toArray m = true ∧ zs.toArray[m]! = y := by
   intro n
   induction n with
   | zero => rintro ⟨h, e⟩; exact ⟨0, h, (keeps_iff _ _).2 (.inl rfl), by rw [getElem!_pos zs.toArray 0 (by simpa using h)]; simpa using e⟩
   | succ n ih =>
    rintro ⟨h, e⟩
    have e1 : zs.toArray[n + 1]! = y := by rw [getElem!_pos zs.toArray (n + 1) (by simpa using h)]; simpa using e
    by_cases hk : keeps zs.toArray (n + 1) = true
    ·
     exact ⟨n + 1, h, hk, e1⟩
    ·
     have : zs.toArray[n + 1]! = zs.toArray[n]! := by
      by_cases h9 : zs.toArray[n + 1]! = zs.toArray[n]!
      ·
       exact h9
      ·
       exact absurd ((keeps_iff _ _).2 (.inr h9)) hk
     refine ih ⟨by omega, ?_⟩
     have h2 : zs.toArray[n]! = zs[n] := by rw [getElem!_pos zs.toArray n (by simp; omega)]; simp
     rw [← h2, ← this, e1]
  obtain ⟨n, h⟩ := hex
  obtain ⟨m, h1, h2, h3⟩ := key n h
  exact ⟨m, ⟨h1, h2⟩, h3⟩
theorem pair_get {zs : List Txt} (h : zs.Pairwise (fun a b => decide (a ≤ b) = true)) {i j : Nat} (hij : i < j) (hj : j < zs.length) : zs.toArray[i]! ≤ zs.toArray[j]! := by
 have := List.pairwise_iff_getElem.1 h i j (by omega) hj hij
 rw [getElem!_pos zs.toArray i (by simp; omega), getElem!_pos zs.toArray j (by simpa using hj)]
 simpa using this
theorem asc_compact {zs : List Txt} (h : zs.Pairwise (fun a b => decide (a ≤ b) = true)) : Asc (compact zs) := by
 unfold Asc compact compactUpTo
 rw [List.pairwise_map]
 have h1 : ((List.range zs.length).filter (keeps zs.toArray)).Pairwise (· < ·) := List.Pairwise.filter _ List.pairwise_lt_range
 refine List.Pairwise.imp_of_mem ?_ h1
 intro a b ha hb hab
 rw [List.mem_filter, List.mem_range] at ha hb
 have hk := (keeps_iff _ _).1 hb.2
 have hne : zs.toArray[b]! ≠ zs.toArray[b - 1]! := by
  rcases hk with h0 | h0
  ·
   omega
  ·
   exact h0
 have h2 : zs.toArray[b - 1]! ≤ zs.toArray[b]! := pair_get h (by omega) hb.1
 have h3 : zs.toArray[a]! ≤ zs.toArray[b - 1]! := by
  by_cases e : a = b - 1
  ·
   subst e; exact List.le_refl _
  ·
   exact pair_get h (by omega) (by omega)
 have h4 : zs.toArray[b - 1]! < zs.toArray[b]! := by
  by_cases hlt : zs.toArray[b - 1]! < zs.toArray[b]!
  ·
   exact hlt
  ·
   exact absurd (List.le_antisymm (List.not_lt.1 hlt) h2) hne
 exact List.lt_of_le_of_lt h3 h4
theorem sorted_compact (l : List Txt) : compact (l.mergeSort fun x y => decide (x ≤ y)) = setL l := by
 have hp : (l.mergeSort fun x y => decide (x ≤ y)).Pairwise (fun a b => decide (a ≤ b) = true) := by
  refine List.pairwise_mergeSort ?_ ?_ l
  ·
   intro a b c h1 h2
   simp only [decide_eq_true_eq] at h1 h2 ⊢
   exact List.le_trans h1 h2
  ·
   intro a b
   simp only [Bool.or_eq_true, decide_eq_true_eq]
   exact List.le_total a b
 refine asc_ext _ _ (asc_compact hp) (asc_setL l) fun y => ?_
 rw [mem_compact, List.mem_mergeSort, mem_setL]
end Go.Proofs.Ytnnkedeohfbkeaa.M
namespace Go.Proofs.Ytnnkedeohfbkeaa.L
open Go.RowKit Go.Proofs.Ytnnkedeohfbkeaa.P Go.Proofs.Ytnnkedeohfbkeaa.M Go.Proofs.YtnnkedeohfbkeaaW.PrintWords Go.Proofs.YtnnkedeohfbkeaaW.PrintLast Go.Proofs.YtnnkedeohfbkeaaW.PrintMore
theorem map_data (l : List Txt) : (l.map B).map (fun x => x.data.toList) = l := by
 rw [List.map_map]
 exact (List.map_congr_left (fun x _ => data_B x)).trans (List.map_id _)
theorem l2Put_eq (l : List Txt) (w : Txt) (h : l.length ≤ 4294967296) (h2 : ∀ x ∈ l, x.length ≤ 4611686018427387900) : spec_l2Put.f (l.map B) (B w) = some ((putL l w).map B) := by
 have hall : ((l.map B).all fun x => decide (x.size ≤ 4611686018427387900)) = true := List.all_eq_true.2 fun x hx => by
  obtain ⟨y, hy, rfl⟩ := List.mem_map.1 hx
  simpa using h2 y hy
 unfold spec_l2Put.f
 rw [map_data, data_B, if_pos ⟨by simpa using h, hall⟩]
theorem set_eq (l : List Txt) (h : l.length ≤ 4294967296) : impl_set.f (l.map B) = some ((setL l).map B) := by
 unfold impl_set.f
 rw [if_pos (by simpa using h), map_data, sorted_compact]
 rfl
end Go.Proofs.Ytnnkedeohfbkeaa.L
