/-
  Part 2 of the proof that FnExactDoesFit returns true for every input: the functions that it reaches, each with its contract, and the law.
  Conditions: those of the given statement, no others.
-/
import Derived.Test.YtjpepfdpihojfaaDoorCFnExactDoesFitW0
import Derived.Sort.Walk0
import Derived.Test.YtjpepfdpihojfaaDoorRows
import Derived.WalkKit
import Derived.ProofKit
import Derived.OpenShut
import Derived.ShutString
import Derived.ChangeOld
import Derived.Below
import Derived.SizedLaws
import Derived.Lay
import Derived.LaidOnce
import Derived.SevenTiedAt
import Derived.Test.YtjpepfdpihojfaaDoorCards
import Derived.Test.YtjpepfdpihojfaaDoorTie
import Derived.Test.YtjpepfdpihojfaaDoorCFnExactDoesFit0
set_option linter.unusedVariables false
set_option linter.unusedSimpArgs false
namespace Go.Proofs.YtjpepfdpihojfaaDoor.P
open Go.RowKit Go.Proofs.YtjpepfdpihojfaaDoorW.PrintWords Go.Proofs.YtjpepfdpihojfaaDoorW.PrintLast Go.Proofs.YtjpepfdpihojfaaDoorW.PrintMore
attribute [local go_sem] max2_int min2_int max_two min_two max_three min_three max_four min_four
set_option linter.unusedVariables false
set_option linter.unusedSimpArgs false
mutual
def impl_fits.l0 : Nat → ByteArray → ByteArray → List Bool → Int → Int → Option (Bool)
 | 0, _, _, _, _, _ => none
 | k + 1, x0, x1, x5, x16, x17 => if x17 < x16 then (if 0 ≤ (wrap64 ((x1.size : Int) + 1)) then (if (wrap64 ((x1.size : Int) + 1) : Int).toNat ≤ 281474976710656 then ((some (List.replicate (wrap64 ((x1.size : Int) + 1) : Int).toNat false : List Bool)).bind fun y133 => (impl_fits.l1 k x0 x1 x5 x17 y133 x16 x17 (y133.length : Int) 0)) else (none)) else (none)) else (if 0 ≤ (x1.size : Int) then (if (x1.size : Int) < (x5.length : Int) then (some (rdOf false x5 (x1.size : Int))) else (none)) else (none))
def impl_fits.l1 : Nat → ByteArray → ByteArray → List Bool → Int → List Bool → Int → Int → Int → Int → Option (Bool)
 | 0, _, _, _, _, _, _, _, _, _ => none
 | k + 1, x0, x1, x5, x6, x7, x16, x17, x25, x26 => if x26 < x25 then (if 0 ≤ x6 then (if x6 < (x0.size : Int) then (if (bt x0 x6) = 42 then (if 0 ≤ x26 then (if x26 < (x5.length : Int) then (if rdOf false x5 x26 = true then (if x26 < (x7.length : Int) then (impl_fits.l1 k x0 x1 x5 x6 (x7.set (x26 : Int).toNat true) x16 x17 x25 (wrap64 (x26 + 1))) else (none)) else (if x26 > 0 then (if 0 ≤ (wrap64 (x26 - 1)) then (if (wrap64 (x26 - 1)) < (x7.length : Int) then (if x26 < (x7.length : Int) then (impl_fits.l1 k x0 x1 x5 x6 (x7.set (x26 : Int).toNat (rdOf false x7 (wrap64 (x26 - 1)))) x16 x17 x25 (wrap64 (x26 + 1))) else (none)) else (none)) else (none)) else (if x26 < (x7.length : Int) then (impl_fits.l1 k x0 x1 x5 x6 (x7.set (x26 : Int).toNat false) x16 x17 x25 (wrap64 (x26 + 1))) else (none)))) else (none)) else (none)) else (if x26 > 0 then (if (bt x0 x6) = 63 then (if 0 ≤ (wrap64 (x26 - 1)) then (if (wrap64 (x26 - 1)) < (x5.length : Int) then (if 0 ≤ x26 then (if x26 < (x7.length : Int) then (impl_fits.l1 k x0 x1 x5 x6 (x7.set (x26 : Int).toNat (rdOf false x5 (wrap64 (x26 - 1)))) x16 x17 x25 (wrap64 (x26 + 1))) else (none)) else (none)) else (none)) else (none)) else (if 0 ≤ (wrap64 (x26 - 1)) then (if (wrap64 (x26 - 1)) < (x1.size : Int) then (if (bt x0 x6) = (bt x1 (wrap64 (x26 - 1))) then (if (wrap64 (x26 - 1)) < (x5.length : Int) then (if 0 ≤ x26 then (if x26 < (x7.length : Int) then (impl_fits.l1 k x0 x1 x5 x6 (x7.set (x26 : Int).toNat (rdOf false x5 (wrap64 (x26 - 1)))) x16 x17 x25 (wrap64 (x26 + 1))) else (none)) else (none)) else (none)) else (impl_fits.l1 k x0 x1 x5 x6 x7 x16 x17 x25 (wrap64 (x26 + 1)))) else (none)) else (none))) else (impl_fits.l1 k x0 x1 x5 x6 x7 x16 x17 x25 (wrap64 (x26 + 1))))) else (none)) else (none)) else (impl_fits.l0 k x0 x1 x7 x16 (wrap64 (x17 + 1)))
end
def impl_fits.f (k : Nat) (a0 : ByteArray) (a1 : ByteArray) : Option (Bool) := if 0 ≤ (wrap64 ((a1.size : Int) + 1)) then (if (wrap64 ((a1.size : Int) + 1) : Int).toNat ≤ 281474976710656 then ((some (List.replicate (wrap64 ((a1.size : Int) + 1) : Int).toNat false : List Bool)).bind fun y128 => (if 0 < (y128.length : Int) then (impl_fits.l0 k a0 a1 (y128.set (0 : Int).toNat true) (a0.size : Int) 0) else (none))) else (none)) else (none)
theorem impl_fits.mono_l : ∀ k, (∀ y0 y1 y2 y3 y4, LeO (impl_fits.l0 k y0 y1 y2 y3 y4) (impl_fits.l0 (k + 1) y0 y1 y2 y3 y4)) ∧ (∀ y0 y1 y2 y3 y4 y5 y6 y7 y8, LeO (impl_fits.l1 k y0 y1 y2 y3 y4 y5 y6 y7 y8) (impl_fits.l1 (k + 1) y0 y1 y2 y3 y4 y5 y6 y7 y8))
 | 0 => ⟨fun _ _ _ _ _ r h => by simp [impl_fits.l0] at h, fun _ _ _ _ _ _ _ _ _ r h => by simp [impl_fits.l1] at h⟩
 | k + 1 => by
  obtain ⟨ih0, ih1⟩ := impl_fits.mono_l k
  refine ⟨?_, ?_⟩
  ·
   intro y0 y1 y2 y3 y4
   unfold impl_fits.l0
   repeat' first
   | (with_reducible exact ih0 _ _ _ _ _)
   | (with_reducible exact ih1 _ _ _ _ _ _ _ _ _)
   | (with_reducible exact LeO.refl _)
   | (with_reducible exact LeO.none _)
   | (with_reducible refine LeO.ite ?_ ?_)
   | (with_reducible refine LeO.bind ?_ (fun _ => ?_))
   | exact ih0 _ _ _ _ _
   | exact ih1 _ _ _ _ _ _ _ _ _
   | exact LeO.none _
   | refine LeO.ite ?_ ?_
   | refine LeO.bind ?_ (fun _ => ?_)
  ·
   intro y0 y1 y2 y3 y4 y5 y6 y7 y8
   unfold impl_fits.l1
   repeat' first
   | (with_reducible exact ih0 _ _ _ _ _)
   | (with_reducible exact ih1 _ _ _ _ _ _ _ _ _)
   | (with_reducible exact LeO.refl _)
   | (with_reducible exact LeO.none _)
   | (with_reducible refine LeO.ite ?_ ?_)
   | (with_reducible refine LeO.bind ?_ (fun _ => ?_))
   | exact ih0 _ _ _ _ _
   | exact ih1 _ _ _ _ _ _ _ _ _
   | exact LeO.none _
   | refine LeO.ite ?_ ?_
   | refine LeO.bind ?_ (fun _ => ?_)
theorem impl_fits.mono : ∀ a0 a1 k, LeO (impl_fits.f k a0 a1) (impl_fits.f (k + 1) a0 a1) := by
 intro a0 a1 k
 obtain ⟨ih0, ih1⟩ := impl_fits.mono_l k
 unfold impl_fits.f
 repeat' first
   | (with_reducible exact ih0 _ _ _ _ _)
   | (with_reducible exact ih1 _ _ _ _ _ _ _ _ _)
   | (with_reducible exact LeO.refl _)
   | (with_reducible exact LeO.none _)
   | (with_reducible refine LeO.ite ?_ ?_)
   | (with_reducible refine LeO.bind ?_ (fun _ => ?_))
   | exact ih0 _ _ _ _ _
   | exact ih1 _ _ _ _ _ _ _ _ _
   | exact LeO.none _
   | refine LeO.ite ?_ ?_
   | refine LeO.bind ?_ (fun _ => ?_)
set_option maxHeartbeats 8000000 in
set_option maxRecDepth 100000 in
theorem impl_fits.calls (k : Nat) (a0 : ByteArray) (a1 : ByteArray) (r : Bool) (w : World) (h : impl_fits.f k a0 a1 = some r) :
  Calls Tryd.prog 14 #[.string a0, .string a1] w fun e w' => e = .returned (.bool r) ∧ Below w.heap.size w w' := by
 have HB := Aside0.mk (Below.refl w.heap.size w)
 have H : (if 0 ≤ (wrap64 ((a1.size : Int) + 1)) then (if (wrap64 ((a1.size : Int) + 1) : Int).toNat ≤ 281474976710656 then ((some (List.replicate (wrap64 ((a1.size : Int) + 1) : Int).toNat false : List Bool)).bind fun y128 => (if 0 < (y128.length : Int) then (impl_fits.l0 k a0 a1 (y128.set (0 : Int).toNat true) (a0.size : Int) 0) else (none))) else (none)) else (none)) = some r := h
 clear h
 obtain ⟨ji3, hji3⟩ : ∃ j_ : Int, (wrap64 ((a1.size : Int) + 1)) = j_ := ⟨_, rfl⟩
 replace H : (if 0 ≤ (ji3) then (if (ji3 : Int).toNat ≤ 281474976710656 then ((some (List.replicate (ji3 : Int).toNat false : List Bool)).bind fun y128 => (if 0 < (y128.length : Int) then (impl_fits.l0 k a0 a1 (y128.set (0 : Int).toNat true) (a0.size : Int) 0) else (none))) else (none)) else (none)) = some r := by first | (rw [hji3] at H; exact H) | (simp only [hji3] at H ⊢; exact H)
 have hji3w : (IntKind.i64.wrap ((a1.size : Int) + 1)) = ji3 := (i64_w _).trans hji3
 by_cases c4 : 0 ≤ (ji3)
 ·
  rw [if_pos c4] at H
  have c4b0 := eq_true c4
  have c4b1 : decide (0 ≤ (ji3)) = true := decide_eq_true c4
  clear c4
  by_cases c5 : (ji3 : Int).toNat ≤ 281474976710656
  ·
   rw [if_pos c5] at H
   have c5b0 := eq_true c5
   have c5b1 : decide ((ji3 : Int).toNat ≤ 281474976710656) = true := decide_eq_true c5
   clear c5
   obtain ⟨y128, hy128⟩ : ∃ y_ : List Bool, y_ = (List.replicate (ji3 : Int).toNat false) := ⟨_, rfl⟩
   replace H : (if 0 < (y128.length : Int) then (impl_fits.l0 k a0 a1 (y128.set (0 : Int).toNat true) (a0.size : Int) 0) else (none)) = some r := by first | (rw [hy128]; with_reducible exact H) | (have H2_ := (Option.bind_some _ _).symm.trans H; rw [hy128]; with_reducible exact H2_) | (have H2_ := (Option.bind_some _ _).symm.trans H; with_reducible exact H2_) | with_reducible exact H | (rw [hy128]; exact H) | exact H
   have Ny128 := Aside0.mk hy128
   clear hy128
   by_cases c6 : 0 < (y128.length : Int)
   ·
    rw [if_pos c6] at H
    have c6b0 : decide (0 < (y128.length : Int)) = true := decide_eq_true c6
    have c6b1 : decide (0 < y128.length) = true := decide_eq_true (by omega)
    clear c6
    obtain ⟨y131, hy131⟩ : ∃ y_ : List Bool, y_ = (y128.set (0 : Int).toNat true) := ⟨_, rfl⟩
    replace H : (impl_fits.l0 k a0 a1 y131 (a0.size : Int) 0) = some r := by first | (rw [hy131]; with_reducible exact H) | (have H2_ := (Option.bind_some _ _).symm.trans H; rw [hy131]; with_reducible exact H2_) | (have H2_ := (Option.bind_some _ _).symm.trans H; with_reducible exact H2_) | with_reducible exact H | (rw [hy131]; exact H) | exact H
    have Ny131 := Aside0.mk hy131
    clear hy131
    have H' := Aside0.mk H
    clear H
    go_enter Tryd.func14, Tryd.ntmps14
    go_wp2_with (first | ((with_reducible refine gate_dst (N := 12) rfl ?_); refine Kd.R_make Kd.bool _ 4 rfl (N := 12) rfl 31 _ _ rfl ji3 rfl rfl Tryd.underlying31 (.bool false) 1 info4 rfl (by decide) (by omega) false (ok := fun _ => True) (okp := fun _ => True) rfl (fun _ hk => hk) trivial (of_decide_eq_true (by first | (with_reducible assumption) | assumption)) (Nat.le_trans (Nat.mul_le_mul_right _ (of_decide_eq_true (by first | (with_reducible assumption) | assumption) : ji3.toNat ≤ 281474976710656)) (by omega)) (Below.refl _ _) (Nat.le_refl _) ?_; intro v129 w8 ho9 hb hg_ hnew_; clear hg_ hnew_; (first | rw [← Ny128.out] at ho9 | (simp only [Int.reduceToNat] at ho9; rw [← Ny128.out] at ho9)); have n0_ := Aside0.mk (Kd.R_lower ho9 (below_size (by repeat (first | (with_reducible first | exact HB.out | apply below_alloc | apply pw_below_drewN | apply below_drew1) | exact HB.out)))); have n1_ := Aside0.mk (below_step (by repeat (first | (with_reducible first | exact HB.out | apply below_alloc | apply pw_below_drewN | apply below_drew1) | exact HB.out)) hb); clear HB; have HO130 := n0_; have HB := n1_; clear n0_ n1_; clear hb ho9; have p7 : 0 ≤ (0 : Int) := (by omega); have q7 : (0 : Int) < ((y128.length : Int) : Int) := of_decide_eq_true (by first | (with_reducible assumption) | assumption); have qi7 : (0 < y128.length) = True := eq_true (by omega); obtain ⟨go7, co7, eo7, gb7, gl7, cl7, HG7⟩ := Kd.R_form HO130.out (by omega); (first | cases eo7 | (injection eo7 with ea_ en_ ec_; (first | subst ea_ | (injection ea_ with ea_; subst ea_)); subst ec_; clear en_)); have GB7 := Aside0.mk gb7; have GG7 := Aside0.mk HG7; clear gb7 gl7 HG7; obtain ⟨hx7_0, hf7_0⟩ := Kd.R_celln false HO130.out (0 : Int) p7 q7; (try rw [show ((0 : Int)).toNat = 0 from rfl] at hx7_0); (try simp only [Nat.reduceMul, Nat.zero_mul, Nat.zero_add, Nat.reduceAdd] at hx7_0); (try rw [show ((0 : Int)).toNat = 0 from rfl] at hf7_0); (try simp only [Nat.reduceMul, Nat.zero_mul, Nat.zero_add, Nat.reduceAdd] at hf7_0); replace p7 := eq_true p7; replace q7 := eq_true q7; obtain ⟨hy10_, hz10_⟩ := Kd.R_celln false HO130.out (0 : Int) (by omega) (of_decide_eq_true (by first | (with_reducible assumption) | assumption)); (try simp only [Int.reduceToNat, Int.toNat_zero, Int.toNat_ofNat, Nat.reduceMul, Nat.zero_mul, Nat.zero_add] at hy10_ hz10_); (try rw [show ((0 : Int)).toNat = 0 from rfl] at hy10_); (try rw [show ((0 : Int)).toNat = 0 from rfl] at hz10_); have HP10 := Kd.R_putg HO130.out (0 : Int) true) | ((with_reducible refine gate_store (t := 4) (p := 14) rfl ?_); (try (rw [drewN_self w8]; generalize hq_ : World.drewN w8 _ = w8; have n0_ := Aside0.mk (Kd.R_at hq_ HO130.out); have n1_ := Aside0.mk (below_at hq_ HB.out); clear hq_ HO130 HB; have HO130 := n0_; have HB := n1_; clear n0_ n1_; (try (obtain ⟨hy10_, hz10_⟩ := Kd.R_celln false HO130.out (0 : Int) (by omega) (of_decide_eq_true (by first | (with_reducible assumption) | assumption)))); (try (try simp only [Int.reduceToNat, Int.toNat_zero, Int.toNat_ofNat, Nat.reduceMul, Nat.zero_mul, Nat.zero_add] at hy10_ hz10_)); (try (try rw [show ((0 : Int)).toNat = 0 from rfl] at hy10_)); (try (try rw [show ((0 : Int)).toNat = 0 from rfl] at hz10_)); (try (have HP10 := Kd.R_putg HO130.out (0 : Int) true)))); refine store_event (t := 4) (p := 14) (v := ?vo_w11) (w1 := (w8.setCell ⟨go7, (0 : Int).toNat, none⟩ (.bool true))) ?hg ?ho ?hn ?hr ?_; (case ho => rfl); (case hg => rfl); (case hn => rfl); (case hr => first | (go_simp; done) | (go_simp; rfl)); intro w11 hw; have hg : w8.grownBy w11 (some go7) := (by rw [hw]; exact HP10.2); have hp_ : Kd.R Kd.bool 4 w11 w.heap.size (fun _ => True) (.slice (some ⟨go7, 0, none⟩) y128.length co7) y131 := (by rw [hw, Ny131.out]; exact HP10.1); clear HP10; have n0_ := Aside0.mk (hp_); have n1_ := Aside0.mk ((by rw [hw]; exact below_set (HB.out) GB7.out : Below w.heap.size w w11)); clear HO130; clear HB; have HO130 := n0_; have HB := n1_; clear n0_ n1_; clear hg hw hp_))
    repeat (go_quiet (first | ((with_reducible refine gate_dst (N := 12) rfl ?_); refine Kd.R_make Kd.bool _ 4 rfl (N := 12) rfl 31 _ _ rfl ji3 rfl rfl Tryd.underlying31 (.bool false) 1 info4 rfl (by decide) (by omega) false (ok := fun _ => True) (okp := fun _ => True) rfl (fun _ hk => hk) trivial (of_decide_eq_true (by first | (with_reducible assumption) | assumption)) (Nat.le_trans (Nat.mul_le_mul_right _ (of_decide_eq_true (by first | (with_reducible assumption) | assumption) : ji3.toNat ≤ 281474976710656)) (by omega)) (Below.refl _ _) (Nat.le_refl _) ?_; intro v129 w8 ho9 hb hg_ hnew_; clear hg_ hnew_; (first | rw [← Ny128.out] at ho9 | (simp only [Int.reduceToNat] at ho9; rw [← Ny128.out] at ho9)); have n0_ := Aside0.mk (Kd.R_lower ho9 (below_size (by repeat (first | (with_reducible first | exact HB.out | apply below_alloc | apply pw_below_drewN | apply below_drew1) | exact HB.out)))); have n1_ := Aside0.mk (below_step (by repeat (first | (with_reducible first | exact HB.out | apply below_alloc | apply pw_below_drewN | apply below_drew1) | exact HB.out)) hb); clear HB; have HO130 := n0_; have HB := n1_; clear n0_ n1_; clear hb ho9; have p7 : 0 ≤ (0 : Int) := (by omega); have q7 : (0 : Int) < ((y128.length : Int) : Int) := of_decide_eq_true (by first | (with_reducible assumption) | assumption); have qi7 : (0 < y128.length) = True := eq_true (by omega); obtain ⟨go7, co7, eo7, gb7, gl7, cl7, HG7⟩ := Kd.R_form HO130.out (by omega); (first | cases eo7 | (injection eo7 with ea_ en_ ec_; (first | subst ea_ | (injection ea_ with ea_; subst ea_)); subst ec_; clear en_)); have GB7 := Aside0.mk gb7; have GG7 := Aside0.mk HG7; clear gb7 gl7 HG7; obtain ⟨hx7_0, hf7_0⟩ := Kd.R_celln false HO130.out (0 : Int) p7 q7; (try rw [show ((0 : Int)).toNat = 0 from rfl] at hx7_0); (try simp only [Nat.reduceMul, Nat.zero_mul, Nat.zero_add, Nat.reduceAdd] at hx7_0); (try rw [show ((0 : Int)).toNat = 0 from rfl] at hf7_0); (try simp only [Nat.reduceMul, Nat.zero_mul, Nat.zero_add, Nat.reduceAdd] at hf7_0); replace p7 := eq_true p7; replace q7 := eq_true q7; obtain ⟨hy10_, hz10_⟩ := Kd.R_celln false HO130.out (0 : Int) (by omega) (of_decide_eq_true (by first | (with_reducible assumption) | assumption)); (try simp only [Int.reduceToNat, Int.toNat_zero, Int.toNat_ofNat, Nat.reduceMul, Nat.zero_mul, Nat.zero_add] at hy10_ hz10_); (try rw [show ((0 : Int)).toNat = 0 from rfl] at hy10_); (try rw [show ((0 : Int)).toNat = 0 from rfl] at hz10_); have HP10 := Kd.R_putg HO130.out (0 : Int) true) | ((with_reducible refine gate_store (t := 4) (p := 14) rfl ?_); (try (rw [drewN_self w8]; generalize hq_ : World.drewN w8 _ = w8; have n0_ := Aside0.mk (Kd.R_at hq_ HO130.out); have n1_ := Aside0.mk (below_at hq_ HB.out); clear hq_ HO130 HB; have HO130 := n0_; have HB := n1_; clear n0_ n1_; (try (obtain ⟨hy10_, hz10_⟩ := Kd.R_celln false HO130.out (0 : Int) (by omega) (of_decide_eq_true (by first | (with_reducible assumption) | assumption)))); (try (try simp only [Int.reduceToNat, Int.toNat_zero, Int.toNat_ofNat, Nat.reduceMul, Nat.zero_mul, Nat.zero_add] at hy10_ hz10_)); (try (try rw [show ((0 : Int)).toNat = 0 from rfl] at hy10_)); (try (try rw [show ((0 : Int)).toNat = 0 from rfl] at hz10_)); (try (have HP10 := Kd.R_putg HO130.out (0 : Int) true)))); refine store_event (t := 4) (p := 14) (v := ?vo_w11) (w1 := (w8.setCell ⟨go7, (0 : Int).toNat, none⟩ (.bool true))) ?hg ?ho ?hn ?hr ?_; (case ho => rfl); (case hg => rfl); (case hn => rfl); (case hr => first | (go_simp; done) | (go_simp; rfl)); intro w11 hw; have hg : w8.grownBy w11 (some go7) := (by rw [hw]; exact HP10.2); have hp_ : Kd.R Kd.bool 4 w11 w.heap.size (fun _ => True) (.slice (some ⟨go7, 0, none⟩) y128.length co7) y131 := (by rw [hw, Ny131.out]; exact HP10.1); clear HP10; have n0_ := Aside0.mk (hp_); have n1_ := Aside0.mk ((by rw [hw]; exact below_set (HB.out) GB7.out : Below w.heap.size w w11)); clear HO130; clear HB; have HO130 := n0_; have HB := n1_; clear n0_ n1_; clear hg hw hp_)); try go_wp2_with (first | ((with_reducible refine gate_dst (N := 12) rfl ?_); refine Kd.R_make Kd.bool _ 4 rfl (N := 12) rfl 31 _ _ rfl ji3 rfl rfl Tryd.underlying31 (.bool false) 1 info4 rfl (by decide) (by omega) false (ok := fun _ => True) (okp := fun _ => True) rfl (fun _ hk => hk) trivial (of_decide_eq_true (by first | (with_reducible assumption) | assumption)) (Nat.le_trans (Nat.mul_le_mul_right _ (of_decide_eq_true (by first | (with_reducible assumption) | assumption) : ji3.toNat ≤ 281474976710656)) (by omega)) (Below.refl _ _) (Nat.le_refl _) ?_; intro v129 w8 ho9 hb hg_ hnew_; clear hg_ hnew_; (first | rw [← Ny128.out] at ho9 | (simp only [Int.reduceToNat] at ho9; rw [← Ny128.out] at ho9)); have n0_ := Aside0.mk (Kd.R_lower ho9 (below_size (by repeat (first | (with_reducible first | exact HB.out | apply below_alloc | apply pw_below_drewN | apply below_drew1) | exact HB.out)))); have n1_ := Aside0.mk (below_step (by repeat (first | (with_reducible first | exact HB.out | apply below_alloc | apply pw_below_drewN | apply below_drew1) | exact HB.out)) hb); clear HB; have HO130 := n0_; have HB := n1_; clear n0_ n1_; clear hb ho9; have p7 : 0 ≤ (0 : Int) := (by omega); have q7 : (0 : Int) < ((y128.length : Int) : Int) := of_decide_eq_true (by first | (with_reducible assumption) | assumption); have qi7 : (0 < y128.length) = True := eq_true (by omega); obtain ⟨go7, co7, eo7, gb7, gl7, cl7, HG7⟩ := Kd.R_form HO130.out (by omega); (first | cases eo7 | (injection eo7 with ea_ en_ ec_; (first | subst ea_ | (injection ea_ with ea_; subst ea_)); subst ec_; clear en_)); have GB7 := Aside0.mk gb7; have GG7 := Aside0.mk HG7; clear gb7 gl7 HG7; obtain ⟨hx7_0, hf7_0⟩ := Kd.R_celln false HO130.out (0 : Int) p7 q7; (try rw [show ((0 : Int)).toNat = 0 from rfl] at hx7_0); (try simp only [Nat.reduceMul, Nat.zero_mul, Nat.zero_add, Nat.reduceAdd] at hx7_0); (try rw [show ((0 : Int)).toNat = 0 from rfl] at hf7_0); (try simp only [Nat.reduceMul, Nat.zero_mul, Nat.zero_add, Nat.reduceAdd] at hf7_0); replace p7 := eq_true p7; replace q7 := eq_true q7; obtain ⟨hy10_, hz10_⟩ := Kd.R_celln false HO130.out (0 : Int) (by omega) (of_decide_eq_true (by first | (with_reducible assumption) | assumption)); (try simp only [Int.reduceToNat, Int.toNat_zero, Int.toNat_ofNat, Nat.reduceMul, Nat.zero_mul, Nat.zero_add] at hy10_ hz10_); (try rw [show ((0 : Int)).toNat = 0 from rfl] at hy10_); (try rw [show ((0 : Int)).toNat = 0 from rfl] at hz10_); have HP10 := Kd.R_putg HO130.out (0 : Int) true) | ((with_reducible refine gate_store (t := 4) (p := 14) rfl ?_); (try (rw [drewN_self w8]; generalize hq_ : World.drewN w8 _ = w8; have n0_ := Aside0.mk (Kd.R_at hq_ HO130.out); have n1_ := Aside0.mk (below_at hq_ HB.out); clear hq_ HO130 HB; have HO130 := n0_; have HB := n1_; clear n0_ n1_; (try (obtain ⟨hy10_, hz10_⟩ := Kd.R_celln false HO130.out (0 : Int) (by omega) (of_decide_eq_true (by first | (with_reducible assumption) | assumption)))); (try (try simp only [Int.reduceToNat, Int.toNat_zero, Int.toNat_ofNat, Nat.reduceMul, Nat.zero_mul, Nat.zero_add] at hy10_ hz10_)); (try (try rw [show ((0 : Int)).toNat = 0 from rfl] at hy10_)); (try (try rw [show ((0 : Int)).toNat = 0 from rfl] at hz10_)); (try (have HP10 := Kd.R_putg HO130.out (0 : Int) true)))); refine store_event (t := 4) (p := 14) (v := ?vo_w11) (w1 := (w8.setCell ⟨go7, (0 : Int).toNat, none⟩ (.bool true))) ?hg ?ho ?hn ?hr ?_; (case ho => rfl); (case hg => rfl); (case hn => rfl); (case hr => first | (go_simp; done) | (go_simp; rfl)); intro w11 hw; have hg : w8.grownBy w11 (some go7) := (by rw [hw]; exact HP10.2); have hp_ : Kd.R Kd.bool 4 w11 w.heap.size (fun _ => True) (.slice (some ⟨go7, 0, none⟩) y128.length co7) y131 := (by rw [hw, Ny131.out]; exact HP10.1); clear HP10; have n0_ := Aside0.mk (hp_); have n1_ := Aside0.mk ((by rw [hw]; exact below_set (HB.out) GB7.out : Below w.heap.size w w11)); clear HO130; clear HB; have HO130 := n0_; have HB := n1_; clear n0_ n1_; clear hg hw hp_)))
    go_loopg [5, 17] k (fun kq v5 v17 w' => ∃ (x5_1 : List Bool) (x17_1 : Int), v17 = .int .i64 x17_1 ∧ Aside0 (impl_fits.l0 kq a0 a1 x5_1 (a0.size : Int) x17_1 = some r) ∧ Aside0 (kq ≤ k) ∧ Aside0 (Kd.R Kd.bool 4 w' w.heap.size (fun _ => True) v5 x5_1) ∧ Aside0 (Below w.heap.size w w'))
    case atStart => exact ⟨(y131), (0), (by first | rfl | (simp; done) | (simp [*]; done)), H', ⟨Nat.le_refl _⟩, ⟨by (with_reducible repeat (first | apply Kd.R_alloc | apply Kd.R_drewN | apply Kd.R_drew)); exact HO130.out⟩, ⟨by repeat (first | (with_reducible first | exact HB.out | apply below_alloc | apply pw_below_drewN | apply below_drew1) | exact HB.out)⟩⟩
    case round =>
     clear H'
     try clear c1
     try clear p2
     try clear c4
     try clear c4b0
     try clear c4b1
     try clear c5
     try clear c5b0
     try clear c5b1
     try clear c6
     try clear c6b0
     try clear c6b1
     try clear p6
     try clear p7
     try clear q7
     try clear hx7
     try clear qi7
     try clear hf7
     try clear hx7_0
     try clear p7
     try clear q7
     obtain ⟨x5_1, x17_1, rfl, HA, HK1, HO_5, HB⟩ := hrel
     cases gk with
     | zero => exact absurd HA.out (by simp [impl_fits.l0])
     | succ k1 =>
      have H := HA.out
      clear HA
      simp only [impl_fits.l0] at H
      by_cases c12 : x17_1 < (a0.size : Int)
      ·
       rw [if_pos c12] at H
       have c12b0 : decide (x17_1 < (a0.size : Int)) = true := decide_eq_true c12
       clear c12
       replace H : (if 0 ≤ (ji3) then (if (ji3 : Int).toNat ≤ 281474976710656 then ((some (List.replicate (ji3 : Int).toNat false : List Bool)).bind fun y133 => (impl_fits.l1 k1 a0 a1 x5_1 x17_1 y133 (a0.size : Int) x17_1 (y133.length : Int) 0)) else (none)) else (none)) = some r := by first | (rw [hji3] at H; exact H) | (simp only [hji3] at H ⊢; exact H)
       have hji3w : (IntKind.i64.wrap ((a1.size : Int) + 1)) = ji3 := (i64_w _).trans hji3
       by_cases c14 : 0 ≤ (ji3)
       ·
        rw [if_pos c14] at H
        have c14b0 := eq_true c14
        have c14b1 : decide (0 ≤ (ji3)) = true := decide_eq_true c14
        clear c14
        by_cases c15 : (ji3 : Int).toNat ≤ 281474976710656
        ·
         rw [if_pos c15] at H
         have c15b0 := eq_true c15
         have c15b1 : decide ((ji3 : Int).toNat ≤ 281474976710656) = true := decide_eq_true c15
         clear c15
         obtain ⟨y133, hy133⟩ : ∃ y_ : List Bool, y_ = (List.replicate (ji3 : Int).toNat false) := ⟨_, rfl⟩
         replace H : (impl_fits.l1 k1 a0 a1 x5_1 x17_1 y133 (a0.size : Int) x17_1 (y133.length : Int) 0) = some r := by first | (rw [hy133]; with_reducible exact H) | (have H2_ := (Option.bind_some _ _).symm.trans H; rw [hy133]; with_reducible exact H2_) | (have H2_ := (Option.bind_some _ _).symm.trans H; with_reducible exact H2_) | with_reducible exact H | (rw [hy133]; exact H) | exact H
         have Ny133 := Aside0.mk hy133
         clear hy133
         have H' := Aside0.mk H
         clear H
         go_wp2_with (first | ((with_reducible refine gate_dst (N := 23) rfl ?_); refine Kd.R_make Kd.bool _ 4 rfl (N := 23) rfl 31 _ _ rfl ji3 rfl rfl Tryd.underlying31 (.bool false) 1 info4 rfl (by decide) (by omega) false (ok := fun _ => True) (okp := fun _ => True) rfl (fun _ hk => hk) trivial (of_decide_eq_true (by first | (with_reducible assumption) | assumption)) (Nat.le_trans (Nat.mul_le_mul_right _ (of_decide_eq_true (by first | (with_reducible assumption) | assumption) : ji3.toNat ≤ 281474976710656)) (by omega)) (Below.refl _ _) (Nat.le_refl _) ?_; intro v134 w16 ho17 hb hg_ hnew_; clear hg_ hnew_; (first | rw [← Ny133.out] at ho17 | (simp only [Int.reduceToNat] at ho17; rw [← Ny133.out] at ho17)); have n0_ := Aside0.mk (Kd.R_elder' (by (with_reducible repeat (first | apply Kd.R_alloc | apply Kd.R_drewN | apply Kd.R_drew)); exact HO_5.out) (Kd.R_base ho17) hb); have n1_ := Aside0.mk (Kd.R_lower (Kd.R_new' ho17 (Kd.R_lt (by (with_reducible repeat (first | apply Kd.R_alloc | apply Kd.R_drewN | apply Kd.R_drew)); exact HO_5.out))) (below_size (by repeat (first | (with_reducible first | exact HB.out | apply below_alloc | apply pw_below_drewN | apply below_drew1) | exact HB.out)))); have n2_ := Aside0.mk (below_step (by repeat (first | (with_reducible first | exact HB.out | apply below_alloc | apply pw_below_drewN | apply below_drew1) | exact HB.out)) hb); clear HO_5; clear HB; have HO_5 := n0_; have HO135 := n1_; have HB := n2_; clear n0_ n1_ n2_; clear hb ho17; obtain ⟨Ao18, co18, eo18⟩ := Kd.R_slice HO135.out; subst eo18))
         repeat (go_quiet (first | ((with_reducible refine gate_dst (N := 23) rfl ?_); refine Kd.R_make Kd.bool _ 4 rfl (N := 23) rfl 31 _ _ rfl ji3 rfl rfl Tryd.underlying31 (.bool false) 1 info4 rfl (by decide) (by omega) false (ok := fun _ => True) (okp := fun _ => True) rfl (fun _ hk => hk) trivial (of_decide_eq_true (by first | (with_reducible assumption) | assumption)) (Nat.le_trans (Nat.mul_le_mul_right _ (of_decide_eq_true (by first | (with_reducible assumption) | assumption) : ji3.toNat ≤ 281474976710656)) (by omega)) (Below.refl _ _) (Nat.le_refl _) ?_; intro v134 w16 ho17 hb hg_ hnew_; clear hg_ hnew_; (first | rw [← Ny133.out] at ho17 | (simp only [Int.reduceToNat] at ho17; rw [← Ny133.out] at ho17)); have n0_ := Aside0.mk (Kd.R_elder' (by (with_reducible repeat (first | apply Kd.R_alloc | apply Kd.R_drewN | apply Kd.R_drew)); exact HO_5.out) (Kd.R_base ho17) hb); have n1_ := Aside0.mk (Kd.R_lower (Kd.R_new' ho17 (Kd.R_lt (by (with_reducible repeat (first | apply Kd.R_alloc | apply Kd.R_drewN | apply Kd.R_drew)); exact HO_5.out))) (below_size (by repeat (first | (with_reducible first | exact HB.out | apply below_alloc | apply pw_below_drewN | apply below_drew1) | exact HB.out)))); have n2_ := Aside0.mk (below_step (by repeat (first | (with_reducible first | exact HB.out | apply below_alloc | apply pw_below_drewN | apply below_drew1) | exact HB.out)) hb); clear HO_5; clear HB; have HO_5 := n0_; have HO135 := n1_; have HB := n2_; clear n0_ n1_ n2_; clear hb ho17; obtain ⟨Ao18, co18, eo18⟩ := Kd.R_slice HO135.out; subst eo18)); try go_wp2_with (first | ((with_reducible refine gate_dst (N := 23) rfl ?_); refine Kd.R_make Kd.bool _ 4 rfl (N := 23) rfl 31 _ _ rfl ji3 rfl rfl Tryd.underlying31 (.bool false) 1 info4 rfl (by decide) (by omega) false (ok := fun _ => True) (okp := fun _ => True) rfl (fun _ hk => hk) trivial (of_decide_eq_true (by first | (with_reducible assumption) | assumption)) (Nat.le_trans (Nat.mul_le_mul_right _ (of_decide_eq_true (by first | (with_reducible assumption) | assumption) : ji3.toNat ≤ 281474976710656)) (by omega)) (Below.refl _ _) (Nat.le_refl _) ?_; intro v134 w16 ho17 hb hg_ hnew_; clear hg_ hnew_; (first | rw [← Ny133.out] at ho17 | (simp only [Int.reduceToNat] at ho17; rw [← Ny133.out] at ho17)); have n0_ := Aside0.mk (Kd.R_elder' (by (with_reducible repeat (first | apply Kd.R_alloc | apply Kd.R_drewN | apply Kd.R_drew)); exact HO_5.out) (Kd.R_base ho17) hb); have n1_ := Aside0.mk (Kd.R_lower (Kd.R_new' ho17 (Kd.R_lt (by (with_reducible repeat (first | apply Kd.R_alloc | apply Kd.R_drewN | apply Kd.R_drew)); exact HO_5.out))) (below_size (by repeat (first | (with_reducible first | exact HB.out | apply below_alloc | apply pw_below_drewN | apply below_drew1) | exact HB.out)))); have n2_ := Aside0.mk (below_step (by repeat (first | (with_reducible first | exact HB.out | apply below_alloc | apply pw_below_drewN | apply below_drew1) | exact HB.out)) hb); clear HO_5; clear HB; have HO_5 := n0_; have HO135 := n1_; have HB := n2_; clear n0_ n1_ n2_; clear hb ho17; obtain ⟨Ao18, co18, eo18⟩ := Kd.R_slice HO135.out; subst eo18)))
         go_loopg [26] k1 (fun kq v26 w' => ∃ (x7_2 : List Bool) (x26_2 : Int), v26 = .int .i64 x26_2 ∧ Aside0 (impl_fits.l1 kq a0 a1 x5_1 x17_1 x7_2 (a0.size : Int) x17_1 (y133.length : Int) x26_2 = some r) ∧ Aside0 (kq ≤ k1) ∧ Aside0 (Kd.R Kd.bool 4 w' w.heap.size (fun k_ => some k_ ≠ ((.slice Ao18 y133.length co18) : Value).ownBlock) u5 x5_1) ∧ Aside0 (Kd.R Kd.bool 4 w' w.heap.size (fun k_ => some k_ ≠ (u5 : Value).ownBlock) (.slice Ao18 y133.length co18) x7_2) ∧ Aside0 (Below w.heap.size w w'))
         case atStart => exact ⟨(y133), (0), (by first | rfl | (simp; done) | (simp [*]; done)), H', ⟨Nat.le_refl _⟩, ⟨by (with_reducible repeat (first | apply Kd.R_alloc | apply Kd.R_drewN | apply Kd.R_drew)); exact Kd.R_mono HO_5.out (fun _ hk => hk.2)⟩, ⟨by (with_reducible repeat (first | apply Kd.R_alloc | apply Kd.R_drewN | apply Kd.R_drew)); exact Kd.R_mono HO135.out (fun _ hk => hk.2)⟩, ⟨by repeat (first | (with_reducible first | exact HB.out | apply below_alloc | apply pw_below_drewN | apply below_drew1) | exact HB.out)⟩⟩
         case round =>
          clear H'
          try clear c1
          try clear p2
          try clear c4
          try clear c4b0
          try clear c4b1
          try clear c5
          try clear c5b0
          try clear c5b1
          try clear c6
          try clear c6b0
          try clear c6b1
          try clear p6
          try clear p7
          try clear q7
          try clear hx7
          try clear qi7
          try clear hf7
          try clear c12
          try clear c12b0
          try clear c14
          try clear c14b0
          try clear c14b1
          try clear c15
          try clear c15b0
          try clear c15b1
          try clear hx7_0
          try clear p2
          try clear p6
          try clear p7
          try clear q7
          obtain ⟨x7_2, x26_2, rfl, HA, HK2, HO_5, HO_7, HB⟩ := hrel
          have hl7_2 := (Kd.R_reads' HO_7.out).1
          rw [hl7_2] at HO_7
          (try simp only [hl7_2])
          (try simp only [hl7_2] at HO_5)
          cases gk with
          | zero => exact absurd HA.out (by simp [impl_fits.l1])
          | succ k2 =>
           have H := HA.out
           clear HA
           simp only [impl_fits.l1] at H
           by_cases c19 : x26_2 < (y133.length : Int)
           ·
            rw [if_pos c19] at H
            have c19b0 : decide (x26_2 < (y133.length : Int)) = true := decide_eq_true c19
            (try have c19b7 : decide (x26_2 < (x7_2.length : Int)) = true := by rw [← hl7_2]; exact c19b0)
            clear c19
            by_cases c20 : 0 ≤ x17_1
            ·
             rw [if_pos c20] at H
             have c20b0 : decide (0 ≤ x17_1) = true := decide_eq_true c20
             clear c20
             by_cases c21 : x17_1 < (a0.size : Int)
             ·
              rw [if_pos c21] at H
              have c21b0 : decide (x17_1 < (a0.size : Int)) = true := decide_eq_true c21
              clear c21
              by_cases c23 : (bt a0 x17_1) = 42
              ·
               rw [if_pos c23] at H
               have c23b0 : ((bt a0 x17_1) == 42) = true := beq_iff_eq.mpr c23
               have c23b1 : ((bt a0 x17_1) != 42) = false := bne_eq_false_iff_eq.mpr c23
               clear c23
               by_cases c24 : 0 ≤ x26_2
               ·
                rw [if_pos c24] at H
                have c24b0 : decide (0 ≤ x26_2) = true := decide_eq_true c24
                clear c24
                by_cases c25 : x26_2 < (x5_1.length : Int)
                ·
                 rw [if_pos c25] at H
                 have c25b0 : decide (x26_2 < (x5_1.length : Int)) = true := decide_eq_true c25
                 clear c25
                 obtain ⟨bq26, hbq26⟩ : ∃ b_ : Bool, b_ = (rdOf false x5_1 x26_2) := ⟨_, rfl⟩
                 replace H : (if bq26 = true then (if x26_2 < (x7_2.length : Int) then (impl_fits.l1 k2 a0 a1 x5_1 x17_1 (x7_2.set (x26_2 : Int).toNat true) (a0.size : Int) x17_1 (y133.length : Int) (wrap64 (x26_2 + 1))) else (none)) else (if x26_2 > 0 then (if 0 ≤ (wrap64 (x26_2 - 1)) then (if (wrap64 (x26_2 - 1)) < (x7_2.length : Int) then (if x26_2 < (x7_2.length : Int) then (impl_fits.l1 k2 a0 a1 x5_1 x17_1 (x7_2.set (x26_2 : Int).toNat (rdOf false x7_2 (wrap64 (x26_2 - 1)))) (a0.size : Int) x17_1 (y133.length : Int) (wrap64 (x26_2 + 1))) else (none)) else (none)) else (none)) else (if x26_2 < (x7_2.length : Int) then (impl_fits.l1 k2 a0 a1 x5_1 x17_1 (x7_2.set (x26_2 : Int).toNat false) (a0.size : Int) x17_1 (y133.length : Int) (wrap64 (x26_2 + 1))) else (none)))) = some r := by rw [← hbq26] at H; exact H
                 have Nbq26 := Aside0.mk hbq26
                 clear hbq26
                 by_cases c27 : bq26 = true
                 ·
                  subst c27
                  have H1 : (if x26_2 < (x7_2.length : Int) then (impl_fits.l1 k2 a0 a1 x5_1 x17_1 (x7_2.set (x26_2 : Int).toNat true) (a0.size : Int) x17_1 (y133.length : Int) (wrap64 (x26_2 + 1))) else (none)) = some r := by rw [if_pos rfl] at H; exact H
                  clear H
                  have H := H1
                  clear H1
                  by_cases c28 : x26_2 < (x7_2.length : Int)
                  ·
                   rw [if_pos c28] at H
                   have c28b0 : decide (x26_2 < (x7_2.length : Int)) = true := decide_eq_true c28
                   clear c28
                   obtain ⟨y137, hy137⟩ : ∃ y_ : List Bool, y_ = (x7_2.set (x26_2 : Int).toNat true) := ⟨_, rfl⟩
                   replace H : (impl_fits.l1 k2 a0 a1 x5_1 x17_1 y137 (a0.size : Int) x17_1 (y133.length : Int) (wrap64 (x26_2 + 1))) = some r := by first | (rw [hy137]; with_reducible exact H) | (have H2_ := (Option.bind_some _ _).symm.trans H; rw [hy137]; with_reducible exact H2_) | (have H2_ := (Option.bind_some _ _).symm.trans H; with_reducible exact H2_) | with_reducible exact H | (rw [hy137]; exact H) | exact H
                   have Ny137 := Aside0.mk hy137
                   clear hy137
                   have H' := Aside0.mk H
                   clear H
                   have p22 : 0 ≤ (x17_1 : Int) := of_decide_eq_true (by first | (with_reducible assumption) | assumption)
                   have q22 : x17_1 < (a0.size : Int) := of_decide_eq_true (by first | (with_reducible assumption) | assumption)
                   have hx22 := bt_at a0 x17_1
                   replace p22 := eq_true p22
                   replace q22 := eq_true q22
                   obtain ⟨Ao30, co30, eo30⟩ := Kd.R_slice HO_5.out
                   subst eo30
                   have p136 : 0 ≤ (x26_2 : Int) := of_decide_eq_true (by first | (with_reducible assumption) | assumption)
                   have q136 : x26_2 < (x5_1.length : Int) := of_decide_eq_true (by first | (with_reducible assumption) | assumption)
                   obtain ⟨ad136, e136, hx136_0⟩ := Kd.at_bool (Kd.R_reads' HO_5.out).2.2 x26_2 p136 q136
                   (try rw [← Nbq26.out] at hx136_0)
                   cases e136
                   replace p136 := eq_true p136
                   replace q136 := eq_true q136
                   have p29 : 0 ≤ (x26_2 : Int) := of_decide_eq_true (by first | (with_reducible assumption) | assumption)
                   have q29 : (x26_2 : Int) < ((x7_2.length : Int) : Int) := of_decide_eq_true (by first | (with_reducible assumption) | assumption)
                   obtain ⟨go29, co29, eo29, gb29, gl29, cl29, HG29⟩ := Kd.R_form HO_7.out (by omega)
                   (first | cases eo29 | (injection eo29 with ea_ en_ ec_; (first | subst ea_ | (injection ea_ with ea_; subst ea_)); subst ec_; clear en_))
                   have GB29 := Aside0.mk gb29
                   have GG29 := Aside0.mk HG29
                   clear gb29 gl29 HG29
                   obtain ⟨hx29_0, hf29_0⟩ := Kd.R_celln false HO_7.out (x26_2 : Int) p29 q29
                   (try simp only [Int.toNat_natCast] at hx29_0 hf29_0)
                   replace p29 := eq_true p29
                   replace q29 := eq_true q29
                   have HP31 := Kd.R_putg HO_7.out (x26_2 : Int) true
                   go_wp2_with (first | ((with_reducible refine gate_store (t := 4) (p := 51) rfl ?_); (try (rw [drewN_self wr]; generalize hq_ : World.drewN wr _ = wr; have n0_ := Aside0.mk (Kd.R_at hq_ HO_5.out); have n1_ := Aside0.mk (Kd.R_at hq_ HO_7.out); have n2_ := Aside0.mk (below_at hq_ HB.out); clear hq_ HO_5 HO_7 HB; have HO_5 := n0_; have HO_7 := n1_; have HB := n2_; clear n0_ n1_ n2_; (try (have HP31 := Kd.R_putg HO_7.out (x26_2 : Int) true)))); refine store_event (t := 4) (p := 51) (v := ?vo_w32) (w1 := (wr.setCell ⟨go29, (x26_2 : Int).toNat, none⟩ (.bool true))) ?hg ?ho ?hn ?hr ?_; (case ho => rfl); (case hg => rfl); (case hn => rfl); (case hr => first | (go_simp; done) | (go_simp; rfl)); intro w32 hw; have hg : wr.grownBy w32 (some go29) := (by rw [hw]; exact HP31.2); have hp_ : Kd.R Kd.bool 4 w32 w.heap.size (fun k_ => some k_ ≠ (.slice (some ad136) x5_1.length co30 : Value).ownBlock) (.slice (some ⟨go29, 0, none⟩) x7_2.length co18) y137 := (by rw [hw, Ny137.out]; exact HP31.1); clear HP31; have n0_ := Aside0.mk (Kd.R_after (v := (.slice (some ⟨go29, 0, none⟩) x7_2.length co18)) (v1 := (.slice (some ⟨go29, 0, none⟩) x7_2.length co18)) (ok := (fun _ => True)) (by (with_reducible repeat (first | apply Kd.R_alloc | apply Kd.R_drewN | apply Kd.R_drew)); exact Kd.R_mono HO_5.out (fun _ hk => ⟨trivial, hk⟩)) hg (.inl rfl)); have n1_ := Aside0.mk (hp_); have n2_ := Aside0.mk ((by rw [hw]; exact below_set (HB.out) GB29.out : Below w.heap.size w w32)); clear HO_5; clear HO_7; clear HB; have HO_5 := n0_; have HO_7 := n1_; have HB := n2_; clear n0_ n1_ n2_; clear hg hw hp_))
                   repeat (go_quiet (first | ((with_reducible refine gate_store (t := 4) (p := 51) rfl ?_); (try (rw [drewN_self wr]; generalize hq_ : World.drewN wr _ = wr; have n0_ := Aside0.mk (Kd.R_at hq_ HO_5.out); have n1_ := Aside0.mk (Kd.R_at hq_ HO_7.out); have n2_ := Aside0.mk (below_at hq_ HB.out); clear hq_ HO_5 HO_7 HB; have HO_5 := n0_; have HO_7 := n1_; have HB := n2_; clear n0_ n1_ n2_; (try (have HP31 := Kd.R_putg HO_7.out (x26_2 : Int) true)))); refine store_event (t := 4) (p := 51) (v := ?vo_w32) (w1 := (wr.setCell ⟨go29, (x26_2 : Int).toNat, none⟩ (.bool true))) ?hg ?ho ?hn ?hr ?_; (case ho => rfl); (case hg => rfl); (case hn => rfl); (case hr => first | (go_simp; done) | (go_simp; rfl)); intro w32 hw; have hg : wr.grownBy w32 (some go29) := (by rw [hw]; exact HP31.2); have hp_ : Kd.R Kd.bool 4 w32 w.heap.size (fun k_ => some k_ ≠ (.slice (some ad136) x5_1.length co30 : Value).ownBlock) (.slice (some ⟨go29, 0, none⟩) x7_2.length co18) y137 := (by rw [hw, Ny137.out]; exact HP31.1); clear HP31; have n0_ := Aside0.mk (Kd.R_after (v := (.slice (some ⟨go29, 0, none⟩) x7_2.length co18)) (v1 := (.slice (some ⟨go29, 0, none⟩) x7_2.length co18)) (ok := (fun _ => True)) (by (with_reducible repeat (first | apply Kd.R_alloc | apply Kd.R_drewN | apply Kd.R_drew)); exact Kd.R_mono HO_5.out (fun _ hk => ⟨trivial, hk⟩)) hg (.inl rfl)); have n1_ := Aside0.mk (hp_); have n2_ := Aside0.mk ((by rw [hw]; exact below_set (HB.out) GB29.out : Below w.heap.size w w32)); clear HO_5; clear HO_7; clear HB; have HO_5 := n0_; have HO_7 := n1_; have HB := n2_; clear n0_ n1_ n2_; clear hg hw hp_)); try go_wp2_with (first | ((with_reducible refine gate_store (t := 4) (p := 51) rfl ?_); (try (rw [drewN_self wr]; generalize hq_ : World.drewN wr _ = wr; have n0_ := Aside0.mk (Kd.R_at hq_ HO_5.out); have n1_ := Aside0.mk (Kd.R_at hq_ HO_7.out); have n2_ := Aside0.mk (below_at hq_ HB.out); clear hq_ HO_5 HO_7 HB; have HO_5 := n0_; have HO_7 := n1_; have HB := n2_; clear n0_ n1_ n2_; (try (have HP31 := Kd.R_putg HO_7.out (x26_2 : Int) true)))); refine store_event (t := 4) (p := 51) (v := ?vo_w32) (w1 := (wr.setCell ⟨go29, (x26_2 : Int).toNat, none⟩ (.bool true))) ?hg ?ho ?hn ?hr ?_; (case ho => rfl); (case hg => rfl); (case hn => rfl); (case hr => first | (go_simp; done) | (go_simp; rfl)); intro w32 hw; have hg : wr.grownBy w32 (some go29) := (by rw [hw]; exact HP31.2); have hp_ : Kd.R Kd.bool 4 w32 w.heap.size (fun k_ => some k_ ≠ (.slice (some ad136) x5_1.length co30 : Value).ownBlock) (.slice (some ⟨go29, 0, none⟩) x7_2.length co18) y137 := (by rw [hw, Ny137.out]; exact HP31.1); clear HP31; have n0_ := Aside0.mk (Kd.R_after (v := (.slice (some ⟨go29, 0, none⟩) x7_2.length co18)) (v1 := (.slice (some ⟨go29, 0, none⟩) x7_2.length co18)) (ok := (fun _ => True)) (by (with_reducible repeat (first | apply Kd.R_alloc | apply Kd.R_drewN | apply Kd.R_drew)); exact Kd.R_mono HO_5.out (fun _ hk => ⟨trivial, hk⟩)) hg (.inl rfl)); have n1_ := Aside0.mk (hp_); have n2_ := Aside0.mk ((by rw [hw]; exact below_set (HB.out) GB29.out : Below w.heap.size w w32)); clear HO_5; clear HO_7; clear HB; have HO_5 := n0_; have HO_7 := n1_; have HB := n2_; clear n0_ n1_ n2_; clear hg hw hp_)))
                   (try simp only [← hl7_2])
                   go_roundg k2
                   case measure => have := HK1.out; have := HK2.out; omega
                   case rel => exact ⟨(y137), (wrap64 (x26_2 + 1)), (by first | rfl | (simp; done) | (simp [*]; done)), H', ⟨by have := HK1.out; have := HK2.out; omega⟩, ⟨by (try simp only [hl7_2]); (with_reducible repeat (first | apply Kd.R_alloc | apply Kd.R_drewN | apply Kd.R_drew)); exact Kd.R_mono HO_5.out (fun _ hk => hk.2)⟩, ⟨by (try simp only [hl7_2]); (with_reducible repeat (first | apply Kd.R_alloc | apply Kd.R_drewN | apply Kd.R_drew)); exact HO_7.out⟩, ⟨by repeat (first | (with_reducible first | exact HB.out | apply below_alloc | apply pw_below_drewN | apply below_drew1) | exact HB.out)⟩⟩
                  ·
                   rw [if_neg c28] at H
                   exact absurd H (by simp)
                 ·
                  replace c27 := Bool.eq_false_iff.mpr c27
                  subst c27
                  have H1 : (if x26_2 > 0 then (if 0 ≤ (wrap64 (x26_2 - 1)) then (if (wrap64 (x26_2 - 1)) < (x7_2.length : Int) then (if x26_2 < (x7_2.length : Int) then (impl_fits.l1 k2 a0 a1 x5_1 x17_1 (x7_2.set (x26_2 : Int).toNat (rdOf false x7_2 (wrap64 (x26_2 - 1)))) (a0.size : Int) x17_1 (y133.length : Int) (wrap64 (x26_2 + 1))) else (none)) else (none)) else (none)) else (if x26_2 < (x7_2.length : Int) then (impl_fits.l1 k2 a0 a1 x5_1 x17_1 (x7_2.set (x26_2 : Int).toNat false) (a0.size : Int) x17_1 (y133.length : Int) (wrap64 (x26_2 + 1))) else (none))) = some r := by rw [if_neg (show ¬ (false = true) by decide)] at H; exact H
                  clear H
                  have H := H1
                  clear H1
                  by_cases c33 : x26_2 > 0
                  ·
                   rw [if_pos c33] at H
                   have c33b0 : decide (0 < x26_2) = true := decide_eq_true c33
                   clear c33
                   obtain ⟨ji34, hji34⟩ : ∃ j_ : Int, (wrap64 (x26_2 - 1)) = j_ := ⟨_, rfl⟩
                   replace H : (if 0 ≤ (ji34) then (if (ji34) < (x7_2.length : Int) then (if x26_2 < (x7_2.length : Int) then (impl_fits.l1 k2 a0 a1 x5_1 x17_1 (x7_2.set (x26_2 : Int).toNat (rdOf false x7_2 (ji34))) (a0.size : Int) x17_1 (y133.length : Int) (wrap64 (x26_2 + 1))) else (none)) else (none)) else (none)) = some r := by first | (rw [hji34] at H; exact H) | (simp only [hji34] at H ⊢; exact H)
                   have hji34w : (IntKind.i64.wrap (x26_2 - 1)) = ji34 := (i64_w _).trans hji34
                   by_cases c35 : 0 ≤ (ji34)
                   ·
                    rw [if_pos c35] at H
                    have c35b0 : decide (0 ≤ (ji34)) = true := decide_eq_true c35
                    clear c35
                    by_cases c36 : (ji34) < (x7_2.length : Int)
                    ·
                     rw [if_pos c36] at H
                     have c36b0 : decide ((ji34) < (x7_2.length : Int)) = true := decide_eq_true c36
                     clear c36
                     by_cases c37 : x26_2 < (x7_2.length : Int)
                     ·
                      rw [if_pos c37] at H
                      have c37b0 : decide (x26_2 < (x7_2.length : Int)) = true := decide_eq_true c37
                      clear c37
                      obtain ⟨y139, hy139⟩ : ∃ y_ : List Bool, y_ = (x7_2.set (x26_2 : Int).toNat (rdOf false x7_2 (ji34))) := ⟨_, rfl⟩
                      replace H : (impl_fits.l1 k2 a0 a1 x5_1 x17_1 y139 (a0.size : Int) x17_1 (y133.length : Int) (wrap64 (x26_2 + 1))) = some r := by first | (rw [hy139]; with_reducible exact H) | (have H2_ := (Option.bind_some _ _).symm.trans H; rw [hy139]; with_reducible exact H2_) | (have H2_ := (Option.bind_some _ _).symm.trans H; with_reducible exact H2_) | with_reducible exact H | (rw [hy139]; exact H) | exact H
                      have Ny139 := Aside0.mk hy139
                      clear hy139
                      have H' := Aside0.mk H
                      clear H
                      have p22 : 0 ≤ (x17_1 : Int) := of_decide_eq_true (by first | (with_reducible assumption) | assumption)
                      have q22 : x17_1 < (a0.size : Int) := of_decide_eq_true (by first | (with_reducible assumption) | assumption)
                      have hx22 := bt_at a0 x17_1
                      replace p22 := eq_true p22
                      replace q22 := eq_true q22
                      obtain ⟨Ao39, co39, eo39⟩ := Kd.R_slice HO_5.out
                      subst eo39
                      have p136 : 0 ≤ (x26_2 : Int) := of_decide_eq_true (by first | (with_reducible assumption) | assumption)
                      have q136 : x26_2 < (x5_1.length : Int) := of_decide_eq_true (by first | (with_reducible assumption) | assumption)
                      obtain ⟨ad136, e136, hx136_0⟩ := Kd.at_bool (Kd.R_reads' HO_5.out).2.2 x26_2 p136 q136
                      (try rw [← Nbq26.out] at hx136_0)
                      cases e136
                      replace p136 := eq_true p136
                      replace q136 := eq_true q136
                      have p138 : 0 ≤ ((ji34) : Int) := of_decide_eq_true (by first | (with_reducible assumption) | assumption)
                      have q138 : (ji34) < (x7_2.length : Int) := of_decide_eq_true (by first | (with_reducible assumption) | assumption)
                      obtain ⟨ad138, e138, hx138_0⟩ := Kd.at_bool (Kd.R_reads' HO_7.out).2.2 (ji34) p138 q138
                      (try rw [← Nbq26.out] at hx138_0)
                      cases e138
                      replace p138 := eq_true p138
                      replace q138 := eq_true q138
                      have p38 : 0 ≤ (x26_2 : Int) := of_decide_eq_true (by first | (with_reducible assumption) | assumption)
                      have q38 : (x26_2 : Int) < ((x7_2.length : Int) : Int) := of_decide_eq_true (by first | (with_reducible assumption) | assumption)
                      obtain ⟨go38, co38, eo38, gb38, gl38, cl38, HG38⟩ := Kd.R_form HO_7.out (by omega)
                      (first | cases eo38 | (injection eo38 with ea_ en_ ec_; (first | subst ea_ | (injection ea_ with ea_; subst ea_)); subst ec_; clear en_))
                      have GB38 := Aside0.mk gb38
                      have GG38 := Aside0.mk HG38
                      clear gb38 gl38 HG38
                      (first | simp only [add_plain] at hx138_0 | skip)
                      (try simp only [Int.toNat_natCast] at hx138_0)
                      obtain ⟨hx38_0, hf38_0⟩ := Kd.R_celln false HO_7.out (x26_2 : Int) p38 q38
                      (try simp only [Int.toNat_natCast] at hx38_0 hf38_0)
                      replace p38 := eq_true p38
                      replace q38 := eq_true q38
                      have HP40 := Kd.R_putg HO_7.out (x26_2 : Int) (rdOf false x7_2 (ji34))
                      go_wp2_with (first | ((with_reducible refine gate_store (t := 4) (p := 51) rfl ?_); (try (rw [drewN_self wr]; generalize hq_ : World.drewN wr _ = wr; have n0_ := Aside0.mk (Kd.R_at hq_ HO_5.out); have n1_ := Aside0.mk (Kd.R_at hq_ HO_7.out); have n2_ := Aside0.mk (below_at hq_ HB.out); clear hq_ HO_5 HO_7 HB; have HO_5 := n0_; have HO_7 := n1_; have HB := n2_; clear n0_ n1_ n2_; (try (have HP40 := Kd.R_putg HO_7.out (x26_2 : Int) (rdOf false x7_2 (ji34)))))); refine store_event (t := 4) (p := 51) (v := ?vo_w41) (w1 := (wr.setCell ⟨go38, (x26_2 : Int).toNat, none⟩ (.bool (rdOf false x7_2 (ji34))))) ?hg ?ho ?hn ?hr ?_; (case ho => rfl); (case hg => rfl); (case hn => rfl); (case hr => first | (go_simp; done) | (go_simp; rfl)); intro w41 hw; have hg : wr.grownBy w41 (some go38) := (by rw [hw]; exact HP40.2); have hp_ : Kd.R Kd.bool 4 w41 w.heap.size (fun k_ => some k_ ≠ (.slice (some ad136) x5_1.length co39 : Value).ownBlock) (.slice (some ⟨go38, 0, none⟩) x7_2.length co18) y139 := (by rw [hw, Ny139.out]; exact HP40.1); clear HP40; have n0_ := Aside0.mk (Kd.R_after (v := (.slice (some ⟨go38, 0, none⟩) x7_2.length co18)) (v1 := (.slice (some ⟨go38, 0, none⟩) x7_2.length co18)) (ok := (fun _ => True)) (by (with_reducible repeat (first | apply Kd.R_alloc | apply Kd.R_drewN | apply Kd.R_drew)); exact Kd.R_mono HO_5.out (fun _ hk => ⟨trivial, hk⟩)) hg (.inl rfl)); have n1_ := Aside0.mk (hp_); have n2_ := Aside0.mk ((by rw [hw]; exact below_set (HB.out) GB38.out : Below w.heap.size w w41)); clear HO_5; clear HO_7; clear HB; have HO_5 := n0_; have HO_7 := n1_; have HB := n2_; clear n0_ n1_ n2_; clear hg hw hp_))
                      repeat (go_quiet (first | ((with_reducible refine gate_store (t := 4) (p := 51) rfl ?_); (try (rw [drewN_self wr]; generalize hq_ : World.drewN wr _ = wr; have n0_ := Aside0.mk (Kd.R_at hq_ HO_5.out); have n1_ := Aside0.mk (Kd.R_at hq_ HO_7.out); have n2_ := Aside0.mk (below_at hq_ HB.out); clear hq_ HO_5 HO_7 HB; have HO_5 := n0_; have HO_7 := n1_; have HB := n2_; clear n0_ n1_ n2_; (try (have HP40 := Kd.R_putg HO_7.out (x26_2 : Int) (rdOf false x7_2 (ji34)))))); refine store_event (t := 4) (p := 51) (v := ?vo_w41) (w1 := (wr.setCell ⟨go38, (x26_2 : Int).toNat, none⟩ (.bool (rdOf false x7_2 (ji34))))) ?hg ?ho ?hn ?hr ?_; (case ho => rfl); (case hg => rfl); (case hn => rfl); (case hr => first | (go_simp; done) | (go_simp; rfl)); intro w41 hw; have hg : wr.grownBy w41 (some go38) := (by rw [hw]; exact HP40.2); have hp_ : Kd.R Kd.bool 4 w41 w.heap.size (fun k_ => some k_ ≠ (.slice (some ad136) x5_1.length co39 : Value).ownBlock) (.slice (some ⟨go38, 0, none⟩) x7_2.length co18) y139 := (by rw [hw, Ny139.out]; exact HP40.1); clear HP40; have n0_ := Aside0.mk (Kd.R_after (v := (.slice (some ⟨go38, 0, none⟩) x7_2.length co18)) (v1 := (.slice (some ⟨go38, 0, none⟩) x7_2.length co18)) (ok := (fun _ => True)) (by (with_reducible repeat (first | apply Kd.R_alloc | apply Kd.R_drewN | apply Kd.R_drew)); exact Kd.R_mono HO_5.out (fun _ hk => ⟨trivial, hk⟩)) hg (.inl rfl)); have n1_ := Aside0.mk (hp_); have n2_ := Aside0.mk ((by rw [hw]; exact below_set (HB.out) GB38.out : Below w.heap.size w w41)); clear HO_5; clear HO_7; clear HB; have HO_5 := n0_; have HO_7 := n1_; have HB := n2_; clear n0_ n1_ n2_; clear hg hw hp_)); try go_wp2_with (first | ((with_reducible refine gate_store (t := 4) (p := 51) rfl ?_); (try (rw [drewN_self wr]; generalize hq_ : World.drewN wr _ = wr; have n0_ := Aside0.mk (Kd.R_at hq_ HO_5.out); have n1_ := Aside0.mk (Kd.R_at hq_ HO_7.out); have n2_ := Aside0.mk (below_at hq_ HB.out); clear hq_ HO_5 HO_7 HB; have HO_5 := n0_; have HO_7 := n1_; have HB := n2_; clear n0_ n1_ n2_; (try (have HP40 := Kd.R_putg HO_7.out (x26_2 : Int) (rdOf false x7_2 (ji34)))))); refine store_event (t := 4) (p := 51) (v := ?vo_w41) (w1 := (wr.setCell ⟨go38, (x26_2 : Int).toNat, none⟩ (.bool (rdOf false x7_2 (ji34))))) ?hg ?ho ?hn ?hr ?_; (case ho => rfl); (case hg => rfl); (case hn => rfl); (case hr => first | (go_simp; done) | (go_simp; rfl)); intro w41 hw; have hg : wr.grownBy w41 (some go38) := (by rw [hw]; exact HP40.2); have hp_ : Kd.R Kd.bool 4 w41 w.heap.size (fun k_ => some k_ ≠ (.slice (some ad136) x5_1.length co39 : Value).ownBlock) (.slice (some ⟨go38, 0, none⟩) x7_2.length co18) y139 := (by rw [hw, Ny139.out]; exact HP40.1); clear HP40; have n0_ := Aside0.mk (Kd.R_after (v := (.slice (some ⟨go38, 0, none⟩) x7_2.length co18)) (v1 := (.slice (some ⟨go38, 0, none⟩) x7_2.length co18)) (ok := (fun _ => True)) (by (with_reducible repeat (first | apply Kd.R_alloc | apply Kd.R_drewN | apply Kd.R_drew)); exact Kd.R_mono HO_5.out (fun _ hk => ⟨trivial, hk⟩)) hg (.inl rfl)); have n1_ := Aside0.mk (hp_); have n2_ := Aside0.mk ((by rw [hw]; exact below_set (HB.out) GB38.out : Below w.heap.size w w41)); clear HO_5; clear HO_7; clear HB; have HO_5 := n0_; have HO_7 := n1_; have HB := n2_; clear n0_ n1_ n2_; clear hg hw hp_)))
                      (try simp only [← hl7_2])
                      go_roundg k2
                      case measure => have := HK1.out; have := HK2.out; omega
                      case rel => exact ⟨(y139), (wrap64 (x26_2 + 1)), (by first | rfl | (simp; done) | (simp [*]; done)), H', ⟨by have := HK1.out; have := HK2.out; omega⟩, ⟨by (try simp only [hl7_2]); (with_reducible repeat (first | apply Kd.R_alloc | apply Kd.R_drewN | apply Kd.R_drew)); exact Kd.R_mono HO_5.out (fun _ hk => hk.2)⟩, ⟨by (try simp only [hl7_2]); (with_reducible repeat (first | apply Kd.R_alloc | apply Kd.R_drewN | apply Kd.R_drew)); exact HO_7.out⟩, ⟨by repeat (first | (with_reducible first | exact HB.out | apply below_alloc | apply pw_below_drewN | apply below_drew1) | exact HB.out)⟩⟩
                     ·
                      rw [if_neg c37] at H
                      exact absurd H (by simp)
                    ·
                     rw [if_neg c36] at H
                     exact absurd H (by simp)
                   ·
                    rw [if_neg c35] at H
                    exact absurd H (by simp)
                  ·
                   rw [if_neg c33] at H
                   have c33b0 : decide (0 < x26_2) = false := decide_eq_false c33
                   clear c33
                   by_cases c42 : x26_2 < (x7_2.length : Int)
                   ·
                    rw [if_pos c42] at H
                    have c42b0 : decide (x26_2 < (x7_2.length : Int)) = true := decide_eq_true c42
                    clear c42
                    obtain ⟨y140, hy140⟩ : ∃ y_ : List Bool, y_ = (x7_2.set (x26_2 : Int).toNat false) := ⟨_, rfl⟩
                    replace H : (impl_fits.l1 k2 a0 a1 x5_1 x17_1 y140 (a0.size : Int) x17_1 (y133.length : Int) (wrap64 (x26_2 + 1))) = some r := by first | (rw [hy140]; with_reducible exact H) | (have H2_ := (Option.bind_some _ _).symm.trans H; rw [hy140]; with_reducible exact H2_) | (have H2_ := (Option.bind_some _ _).symm.trans H; with_reducible exact H2_) | with_reducible exact H | (rw [hy140]; exact H) | exact H
                    have Ny140 := Aside0.mk hy140
                    clear hy140
                    have H' := Aside0.mk H
                    clear H
                    have p22 : 0 ≤ (x17_1 : Int) := of_decide_eq_true (by first | (with_reducible assumption) | assumption)
                    have q22 : x17_1 < (a0.size : Int) := of_decide_eq_true (by first | (with_reducible assumption) | assumption)
                    have hx22 := bt_at a0 x17_1
                    replace p22 := eq_true p22
                    replace q22 := eq_true q22
                    obtain ⟨Ao44, co44, eo44⟩ := Kd.R_slice HO_5.out
                    subst eo44
                    have p136 : 0 ≤ (x26_2 : Int) := of_decide_eq_true (by first | (with_reducible assumption) | assumption)
                    have q136 : x26_2 < (x5_1.length : Int) := of_decide_eq_true (by first | (with_reducible assumption) | assumption)
                    obtain ⟨ad136, e136, hx136_0⟩ := Kd.at_bool (Kd.R_reads' HO_5.out).2.2 x26_2 p136 q136
                    (try rw [← Nbq26.out] at hx136_0)
                    cases e136
                    replace p136 := eq_true p136
                    replace q136 := eq_true q136
                    have p43 : 0 ≤ (x26_2 : Int) := of_decide_eq_true (by first | (with_reducible assumption) | assumption)
                    have q43 : (x26_2 : Int) < ((x7_2.length : Int) : Int) := of_decide_eq_true (by first | (with_reducible assumption) | assumption)
                    obtain ⟨go43, co43, eo43, gb43, gl43, cl43, HG43⟩ := Kd.R_form HO_7.out (by omega)
                    (first | cases eo43 | (injection eo43 with ea_ en_ ec_; (first | subst ea_ | (injection ea_ with ea_; subst ea_)); subst ec_; clear en_))
                    have GB43 := Aside0.mk gb43
                    have GG43 := Aside0.mk HG43
                    clear gb43 gl43 HG43
                    obtain ⟨hx43_0, hf43_0⟩ := Kd.R_celln false HO_7.out (x26_2 : Int) p43 q43
                    (try simp only [Int.toNat_natCast] at hx43_0 hf43_0)
                    replace p43 := eq_true p43
                    replace q43 := eq_true q43
                    have HP45 := Kd.R_putg HO_7.out (x26_2 : Int) false
                    go_wp2_with (first | ((with_reducible refine gate_store (t := 4) (p := 51) rfl ?_); (try (rw [drewN_self wr]; generalize hq_ : World.drewN wr _ = wr; have n0_ := Aside0.mk (Kd.R_at hq_ HO_5.out); have n1_ := Aside0.mk (Kd.R_at hq_ HO_7.out); have n2_ := Aside0.mk (below_at hq_ HB.out); clear hq_ HO_5 HO_7 HB; have HO_5 := n0_; have HO_7 := n1_; have HB := n2_; clear n0_ n1_ n2_; (try (have HP45 := Kd.R_putg HO_7.out (x26_2 : Int) false)))); refine store_event (t := 4) (p := 51) (v := ?vo_w46) (w1 := (wr.setCell ⟨go43, (x26_2 : Int).toNat, none⟩ (.bool false))) ?hg ?ho ?hn ?hr ?_; (case ho => rfl); (case hg => rfl); (case hn => rfl); (case hr => first | (go_simp; done) | (go_simp; rfl)); intro w46 hw; have hg : wr.grownBy w46 (some go43) := (by rw [hw]; exact HP45.2); have hp_ : Kd.R Kd.bool 4 w46 w.heap.size (fun k_ => some k_ ≠ (.slice (some ad136) x5_1.length co44 : Value).ownBlock) (.slice (some ⟨go43, 0, none⟩) x7_2.length co18) y140 := (by rw [hw, Ny140.out]; exact HP45.1); clear HP45; have n0_ := Aside0.mk (Kd.R_after (v := (.slice (some ⟨go43, 0, none⟩) x7_2.length co18)) (v1 := (.slice (some ⟨go43, 0, none⟩) x7_2.length co18)) (ok := (fun _ => True)) (by (with_reducible repeat (first | apply Kd.R_alloc | apply Kd.R_drewN | apply Kd.R_drew)); exact Kd.R_mono HO_5.out (fun _ hk => ⟨trivial, hk⟩)) hg (.inl rfl)); have n1_ := Aside0.mk (hp_); have n2_ := Aside0.mk ((by rw [hw]; exact below_set (HB.out) GB43.out : Below w.heap.size w w46)); clear HO_5; clear HO_7; clear HB; have HO_5 := n0_; have HO_7 := n1_; have HB := n2_; clear n0_ n1_ n2_; clear hg hw hp_))
                    repeat (go_quiet (first | ((with_reducible refine gate_store (t := 4) (p := 51) rfl ?_); (try (rw [drewN_self wr]; generalize hq_ : World.drewN wr _ = wr; have n0_ := Aside0.mk (Kd.R_at hq_ HO_5.out); have n1_ := Aside0.mk (Kd.R_at hq_ HO_7.out); have n2_ := Aside0.mk (below_at hq_ HB.out); clear hq_ HO_5 HO_7 HB; have HO_5 := n0_; have HO_7 := n1_; have HB := n2_; clear n0_ n1_ n2_; (try (have HP45 := Kd.R_putg HO_7.out (x26_2 : Int) false)))); refine store_event (t := 4) (p := 51) (v := ?vo_w46) (w1 := (wr.setCell ⟨go43, (x26_2 : Int).toNat, none⟩ (.bool false))) ?hg ?ho ?hn ?hr ?_; (case ho => rfl); (case hg => rfl); (case hn => rfl); (case hr => first | (go_simp; done) | (go_simp; rfl)); intro w46 hw; have hg : wr.grownBy w46 (some go43) := (by rw [hw]; exact HP45.2); have hp_ : Kd.R Kd.bool 4 w46 w.heap.size (fun k_ => some k_ ≠ (.slice (some ad136) x5_1.length co44 : Value).ownBlock) (.slice (some ⟨go43, 0, none⟩) x7_2.length co18) y140 := (by rw [hw, Ny140.out]; exact HP45.1); clear HP45; have n0_ := Aside0.mk (Kd.R_after (v := (.slice (some ⟨go43, 0, none⟩) x7_2.length co18)) (v1 := (.slice (some ⟨go43, 0, none⟩) x7_2.length co18)) (ok := (fun _ => True)) (by (with_reducible repeat (first | apply Kd.R_alloc | apply Kd.R_drewN | apply Kd.R_drew)); exact Kd.R_mono HO_5.out (fun _ hk => ⟨trivial, hk⟩)) hg (.inl rfl)); have n1_ := Aside0.mk (hp_); have n2_ := Aside0.mk ((by rw [hw]; exact below_set (HB.out) GB43.out : Below w.heap.size w w46)); clear HO_5; clear HO_7; clear HB; have HO_5 := n0_; have HO_7 := n1_; have HB := n2_; clear n0_ n1_ n2_; clear hg hw hp_)); try go_wp2_with (first | ((with_reducible refine gate_store (t := 4) (p := 51) rfl ?_); (try (rw [drewN_self wr]; generalize hq_ : World.drewN wr _ = wr; have n0_ := Aside0.mk (Kd.R_at hq_ HO_5.out); have n1_ := Aside0.mk (Kd.R_at hq_ HO_7.out); have n2_ := Aside0.mk (below_at hq_ HB.out); clear hq_ HO_5 HO_7 HB; have HO_5 := n0_; have HO_7 := n1_; have HB := n2_; clear n0_ n1_ n2_; (try (have HP45 := Kd.R_putg HO_7.out (x26_2 : Int) false)))); refine store_event (t := 4) (p := 51) (v := ?vo_w46) (w1 := (wr.setCell ⟨go43, (x26_2 : Int).toNat, none⟩ (.bool false))) ?hg ?ho ?hn ?hr ?_; (case ho => rfl); (case hg => rfl); (case hn => rfl); (case hr => first | (go_simp; done) | (go_simp; rfl)); intro w46 hw; have hg : wr.grownBy w46 (some go43) := (by rw [hw]; exact HP45.2); have hp_ : Kd.R Kd.bool 4 w46 w.heap.size (fun k_ => some k_ ≠ (.slice (some ad136) x5_1.length co44 : Value).ownBlock) (.slice (some ⟨go43, 0, none⟩) x7_2.length co18) y140 := (by rw [hw, Ny140.out]; exact HP45.1); clear HP45; have n0_ := Aside0.mk (Kd.R_after (v := (.slice (some ⟨go43, 0, none⟩) x7_2.length co18)) (v1 := (.slice (some ⟨go43, 0, none⟩) x7_2.length co18)) (ok := (fun _ => True)) (by (with_reducible repeat (first | apply Kd.R_alloc | apply Kd.R_drewN | apply Kd.R_drew)); exact Kd.R_mono HO_5.out (fun _ hk => ⟨trivial, hk⟩)) hg (.inl rfl)); have n1_ := Aside0.mk (hp_); have n2_ := Aside0.mk ((by rw [hw]; exact below_set (HB.out) GB43.out : Below w.heap.size w w46)); clear HO_5; clear HO_7; clear HB; have HO_5 := n0_; have HO_7 := n1_; have HB := n2_; clear n0_ n1_ n2_; clear hg hw hp_)))
                    (try simp only [← hl7_2])
                    go_roundg k2
                    case measure => have := HK1.out; have := HK2.out; omega
                    case rel => exact ⟨(y140), (wrap64 (x26_2 + 1)), (by first | rfl | (simp; done) | (simp [*]; done)), H', ⟨by have := HK1.out; have := HK2.out; omega⟩, ⟨by (try simp only [hl7_2]); (with_reducible repeat (first | apply Kd.R_alloc | apply Kd.R_drewN | apply Kd.R_drew)); exact Kd.R_mono HO_5.out (fun _ hk => hk.2)⟩, ⟨by (try simp only [hl7_2]); (with_reducible repeat (first | apply Kd.R_alloc | apply Kd.R_drewN | apply Kd.R_drew)); exact HO_7.out⟩, ⟨by repeat (first | (with_reducible first | exact HB.out | apply below_alloc | apply pw_below_drewN | apply below_drew1) | exact HB.out)⟩⟩
                   ·
                    rw [if_neg c42] at H
                    exact absurd H (by simp)
                ·
                 rw [if_neg c25] at H
                 exact absurd H (by simp)
               ·
                rw [if_neg c24] at H
                exact absurd H (by simp)
              ·
               rw [if_neg c23] at H
               have c23b0 : ((bt a0 x17_1) == 42) = false := beq_eq_false_iff_ne.mpr c23
               have c23b1 : ((bt a0 x17_1) != 42) = true := bne_iff_ne.mpr c23
               by_cases c47 : x26_2 > 0
               ·
                rw [if_pos c47] at H
                have c47b0 : decide (0 < x26_2) = true := decide_eq_true c47
                clear c47
                by_cases c49 : (bt a0 x17_1) = 63
                ·
                 rw [if_pos c49] at H
                 have c49b0 : ((bt a0 x17_1) == 63) = true := beq_iff_eq.mpr c49
                 have c49b1 : ((bt a0 x17_1) != 63) = false := bne_eq_false_iff_eq.mpr c49
                 clear c49
                 obtain ⟨ji50, hji50⟩ : ∃ j_ : Int, (wrap64 (x26_2 - 1)) = j_ := ⟨_, rfl⟩
                 replace H : (if 0 ≤ (ji50) then (if (ji50) < (x5_1.length : Int) then (if 0 ≤ x26_2 then (if x26_2 < (x7_2.length : Int) then (impl_fits.l1 k2 a0 a1 x5_1 x17_1 (x7_2.set (x26_2 : Int).toNat (rdOf false x5_1 (ji50))) (a0.size : Int) x17_1 (y133.length : Int) (wrap64 (x26_2 + 1))) else (none)) else (none)) else (none)) else (none)) = some r := by first | (rw [hji50] at H; exact H) | (simp only [hji50] at H ⊢; exact H)
                 have hji50w : (IntKind.i64.wrap (x26_2 - 1)) = ji50 := (i64_w _).trans hji50
                 by_cases c51 : 0 ≤ (ji50)
                 ·
                  rw [if_pos c51] at H
                  have c51b0 : decide (0 ≤ (ji50)) = true := decide_eq_true c51
                  clear c51
                  by_cases c52 : (ji50) < (x5_1.length : Int)
                  ·
                   rw [if_pos c52] at H
                   have c52b0 : decide ((ji50) < (x5_1.length : Int)) = true := decide_eq_true c52
                   clear c52
                   by_cases c53 : 0 ≤ x26_2
                   ·
                    rw [if_pos c53] at H
                    have c53b0 : decide (0 ≤ x26_2) = true := decide_eq_true c53
                    clear c53
                    by_cases c54 : x26_2 < (x7_2.length : Int)
                    ·
                     rw [if_pos c54] at H
                     have c54b0 : decide (x26_2 < (x7_2.length : Int)) = true := decide_eq_true c54
                     clear c54
                     obtain ⟨y142, hy142⟩ : ∃ y_ : List Bool, y_ = (x7_2.set (x26_2 : Int).toNat (rdOf false x5_1 (ji50))) := ⟨_, rfl⟩
                     replace H : (impl_fits.l1 k2 a0 a1 x5_1 x17_1 y142 (a0.size : Int) x17_1 (y133.length : Int) (wrap64 (x26_2 + 1))) = some r := by first | (rw [hy142]; with_reducible exact H) | (have H2_ := (Option.bind_some _ _).symm.trans H; rw [hy142]; with_reducible exact H2_) | (have H2_ := (Option.bind_some _ _).symm.trans H; with_reducible exact H2_) | with_reducible exact H | (rw [hy142]; exact H) | exact H
                     have Ny142 := Aside0.mk hy142
                     clear hy142
                     have H' := Aside0.mk H
                     clear H
                     have p22 : 0 ≤ (x17_1 : Int) := of_decide_eq_true (by first | (with_reducible assumption) | assumption)
                     have q22 : x17_1 < (a0.size : Int) := of_decide_eq_true (by first | (with_reducible assumption) | assumption)
                     have hx22 := bt_at a0 x17_1
                     replace p22 := eq_true p22
                     replace q22 := eq_true q22
                     have p48 : 0 ≤ (x17_1 : Int) := of_decide_eq_true (by first | (with_reducible assumption) | assumption)
                     have q48 : x17_1 < (a0.size : Int) := of_decide_eq_true (by first | (with_reducible assumption) | assumption)
                     have hx48 := bt_at a0 x17_1
                     replace p48 := eq_true p48
                     replace q48 := eq_true q48
                     obtain ⟨Ao56, co56, eo56⟩ := Kd.R_slice HO_5.out
                     subst eo56
                     have p141 : 0 ≤ ((ji50) : Int) := of_decide_eq_true (by first | (with_reducible assumption) | assumption)
                     have q141 : (ji50) < (x5_1.length : Int) := of_decide_eq_true (by first | (with_reducible assumption) | assumption)
                     obtain ⟨ad141, e141, hx141_0⟩ := Kd.at_bool (Kd.R_reads' HO_5.out).2.2 (ji50) p141 q141
                     cases e141
                     replace p141 := eq_true p141
                     replace q141 := eq_true q141
                     have p55 : 0 ≤ (x26_2 : Int) := of_decide_eq_true (by first | (with_reducible assumption) | assumption)
                     have q55 : (x26_2 : Int) < ((x7_2.length : Int) : Int) := of_decide_eq_true (by first | (with_reducible assumption) | assumption)
                     obtain ⟨go55, co55, eo55, gb55, gl55, cl55, HG55⟩ := Kd.R_form HO_7.out (by omega)
                     (first | cases eo55 | (injection eo55 with ea_ en_ ec_; (first | subst ea_ | (injection ea_ with ea_; subst ea_)); subst ec_; clear en_))
                     have GB55 := Aside0.mk gb55
                     have GG55 := Aside0.mk HG55
                     clear gb55 gl55 HG55
                     obtain ⟨hx55_0, hf55_0⟩ := Kd.R_celln false HO_7.out (x26_2 : Int) p55 q55
                     (try simp only [Int.toNat_natCast] at hx55_0 hf55_0)
                     replace p55 := eq_true p55
                     replace q55 := eq_true q55
                     have HP57 := Kd.R_putg HO_7.out (x26_2 : Int) (rdOf false x5_1 (ji50))
                     go_wp2_with (first | ((with_reducible refine gate_store (t := 4) (p := 78) rfl ?_); (try (rw [drewN_self wr]; generalize hq_ : World.drewN wr _ = wr; have n0_ := Aside0.mk (Kd.R_at hq_ HO_5.out); have n1_ := Aside0.mk (Kd.R_at hq_ HO_7.out); have n2_ := Aside0.mk (below_at hq_ HB.out); clear hq_ HO_5 HO_7 HB; have HO_5 := n0_; have HO_7 := n1_; have HB := n2_; clear n0_ n1_ n2_; (try (have HP57 := Kd.R_putg HO_7.out (x26_2 : Int) (rdOf false x5_1 (ji50)))))); refine store_event (t := 4) (p := 78) (v := ?vo_w58) (w1 := (wr.setCell ⟨go55, (x26_2 : Int).toNat, none⟩ (.bool (rdOf false x5_1 (ji50))))) ?hg ?ho ?hn ?hr ?_; (case ho => rfl); (case hg => rfl); (case hn => rfl); (case hr => first | (go_simp; done) | (go_simp; rfl)); intro w58 hw; have hg : wr.grownBy w58 (some go55) := (by rw [hw]; exact HP57.2); have hp_ : Kd.R Kd.bool 4 w58 w.heap.size (fun k_ => some k_ ≠ (.slice (some ad141) x5_1.length co56 : Value).ownBlock) (.slice (some ⟨go55, 0, none⟩) x7_2.length co18) y142 := (by rw [hw, Ny142.out]; exact HP57.1); clear HP57; have n0_ := Aside0.mk (Kd.R_after (v := (.slice (some ⟨go55, 0, none⟩) x7_2.length co18)) (v1 := (.slice (some ⟨go55, 0, none⟩) x7_2.length co18)) (ok := (fun _ => True)) (by (with_reducible repeat (first | apply Kd.R_alloc | apply Kd.R_drewN | apply Kd.R_drew)); exact Kd.R_mono HO_5.out (fun _ hk => ⟨trivial, hk⟩)) hg (.inl rfl)); have n1_ := Aside0.mk (hp_); have n2_ := Aside0.mk ((by rw [hw]; exact below_set (HB.out) GB55.out : Below w.heap.size w w58)); clear HO_5; clear HO_7; clear HB; have HO_5 := n0_; have HO_7 := n1_; have HB := n2_; clear n0_ n1_ n2_; clear hg hw hp_))
                     repeat (go_quiet (first | ((with_reducible refine gate_store (t := 4) (p := 78) rfl ?_); (try (rw [drewN_self wr]; generalize hq_ : World.drewN wr _ = wr; have n0_ := Aside0.mk (Kd.R_at hq_ HO_5.out); have n1_ := Aside0.mk (Kd.R_at hq_ HO_7.out); have n2_ := Aside0.mk (below_at hq_ HB.out); clear hq_ HO_5 HO_7 HB; have HO_5 := n0_; have HO_7 := n1_; have HB := n2_; clear n0_ n1_ n2_; (try (have HP57 := Kd.R_putg HO_7.out (x26_2 : Int) (rdOf false x5_1 (ji50)))))); refine store_event (t := 4) (p := 78) (v := ?vo_w58) (w1 := (wr.setCell ⟨go55, (x26_2 : Int).toNat, none⟩ (.bool (rdOf false x5_1 (ji50))))) ?hg ?ho ?hn ?hr ?_; (case ho => rfl); (case hg => rfl); (case hn => rfl); (case hr => first | (go_simp; done) | (go_simp; rfl)); intro w58 hw; have hg : wr.grownBy w58 (some go55) := (by rw [hw]; exact HP57.2); have hp_ : Kd.R Kd.bool 4 w58 w.heap.size (fun k_ => some k_ ≠ (.slice (some ad141) x5_1.length co56 : Value).ownBlock) (.slice (some ⟨go55, 0, none⟩) x7_2.length co18) y142 := (by rw [hw, Ny142.out]; exact HP57.1); clear HP57; have n0_ := Aside0.mk (Kd.R_after (v := (.slice (some ⟨go55, 0, none⟩) x7_2.length co18)) (v1 := (.slice (some ⟨go55, 0, none⟩) x7_2.length co18)) (ok := (fun _ => True)) (by (with_reducible repeat (first | apply Kd.R_alloc | apply Kd.R_drewN | apply Kd.R_drew)); exact Kd.R_mono HO_5.out (fun _ hk => ⟨trivial, hk⟩)) hg (.inl rfl)); have n1_ := Aside0.mk (hp_); have n2_ := Aside0.mk ((by rw [hw]; exact below_set (HB.out) GB55.out : Below w.heap.size w w58)); clear HO_5; clear HO_7; clear HB; have HO_5 := n0_; have HO_7 := n1_; have HB := n2_; clear n0_ n1_ n2_; clear hg hw hp_)); try go_wp2_with (first | ((with_reducible refine gate_store (t := 4) (p := 78) rfl ?_); (try (rw [drewN_self wr]; generalize hq_ : World.drewN wr _ = wr; have n0_ := Aside0.mk (Kd.R_at hq_ HO_5.out); have n1_ := Aside0.mk (Kd.R_at hq_ HO_7.out); have n2_ := Aside0.mk (below_at hq_ HB.out); clear hq_ HO_5 HO_7 HB; have HO_5 := n0_; have HO_7 := n1_; have HB := n2_; clear n0_ n1_ n2_; (try (have HP57 := Kd.R_putg HO_7.out (x26_2 : Int) (rdOf false x5_1 (ji50)))))); refine store_event (t := 4) (p := 78) (v := ?vo_w58) (w1 := (wr.setCell ⟨go55, (x26_2 : Int).toNat, none⟩ (.bool (rdOf false x5_1 (ji50))))) ?hg ?ho ?hn ?hr ?_; (case ho => rfl); (case hg => rfl); (case hn => rfl); (case hr => first | (go_simp; done) | (go_simp; rfl)); intro w58 hw; have hg : wr.grownBy w58 (some go55) := (by rw [hw]; exact HP57.2); have hp_ : Kd.R Kd.bool 4 w58 w.heap.size (fun k_ => some k_ ≠ (.slice (some ad141) x5_1.length co56 : Value).ownBlock) (.slice (some ⟨go55, 0, none⟩) x7_2.length co18) y142 := (by rw [hw, Ny142.out]; exact HP57.1); clear HP57; have n0_ := Aside0.mk (Kd.R_after (v := (.slice (some ⟨go55, 0, none⟩) x7_2.length co18)) (v1 := (.slice (some ⟨go55, 0, none⟩) x7_2.length co18)) (ok := (fun _ => True)) (by (with_reducible repeat (first | apply Kd.R_alloc | apply Kd.R_drewN | apply Kd.R_drew)); exact Kd.R_mono HO_5.out (fun _ hk => ⟨trivial, hk⟩)) hg (.inl rfl)); have n1_ := Aside0.mk (hp_); have n2_ := Aside0.mk ((by rw [hw]; exact below_set (HB.out) GB55.out : Below w.heap.size w w58)); clear HO_5; clear HO_7; clear HB; have HO_5 := n0_; have HO_7 := n1_; have HB := n2_; clear n0_ n1_ n2_; clear hg hw hp_)))
                     (try simp only [← hl7_2])
                     go_roundg k2
                     case measure => have := HK1.out; have := HK2.out; omega
                     case rel => exact ⟨(y142), (wrap64 (x26_2 + 1)), (by first | rfl | (simp; done) | (simp [*]; done)), H', ⟨by have := HK1.out; have := HK2.out; omega⟩, ⟨by (try simp only [hl7_2]); (with_reducible repeat (first | apply Kd.R_alloc | apply Kd.R_drewN | apply Kd.R_drew)); first | exact Kd.R_mono HO_5.out (fun _ hk => hk.2) | exact Kd.R_far (by (with_reducible repeat (first | apply Kd.R_drewN)); exact HO_5.out) (fun k_ hk_ e_ => hk_ (by rw [e_]; rfl)) _⟩, ⟨by (try simp only [hl7_2]); (with_reducible repeat (first | apply Kd.R_alloc | apply Kd.R_drewN | apply Kd.R_drew)); first | exact HO_7.out | (rw [Ny142.out]; exact (Kd.R_putg (by (with_reducible repeat (first | apply Kd.R_drewN)); exact HO_7.out) (x26_2 : Int) (rdOf false x5_1 (ji50))).1)⟩, ⟨by first | exact below_set (by repeat (first | exact HB.out | apply pw_below_drewN)) GB55.out | repeat (first | (with_reducible first | exact HB.out | apply below_alloc | apply pw_below_drewN | apply below_drew1) | exact HB.out)⟩⟩
                    ·
                     rw [if_neg c54] at H
                     exact absurd H (by simp)
                   ·
                    rw [if_neg c53] at H
                    exact absurd H (by simp)
                  ·
                   rw [if_neg c52] at H
                   exact absurd H (by simp)
                 ·
                  rw [if_neg c51] at H
                  exact absurd H (by simp)
                ·
                 rw [if_neg c49] at H
                 have c49b0 : ((bt a0 x17_1) == 63) = false := beq_eq_false_iff_ne.mpr c49
                 have c49b1 : ((bt a0 x17_1) != 63) = true := bne_iff_ne.mpr c49
                 obtain ⟨ji60, hji60⟩ : ∃ j_ : Int, (wrap64 (x26_2 - 1)) = j_ := ⟨_, rfl⟩
                 replace H : (if 0 ≤ (ji60) then (if (ji60) < (a1.size : Int) then (if (bt a0 x17_1) = (bt a1 (ji60)) then (if (ji60) < (x5_1.length : Int) then (if 0 ≤ x26_2 then (if x26_2 < (x7_2.length : Int) then (impl_fits.l1 k2 a0 a1 x5_1 x17_1 (x7_2.set (x26_2 : Int).toNat (rdOf false x5_1 (ji60))) (a0.size : Int) x17_1 (y133.length : Int) (wrap64 (x26_2 + 1))) else (none)) else (none)) else (none)) else (impl_fits.l1 k2 a0 a1 x5_1 x17_1 x7_2 (a0.size : Int) x17_1 (y133.length : Int) (wrap64 (x26_2 + 1)))) else (none)) else (none)) = some r := by first | (rw [hji60] at H; exact H) | (simp only [hji60] at H ⊢; exact H)
                 have hji60w : (IntKind.i64.wrap (x26_2 - 1)) = ji60 := (i64_w _).trans hji60
                 by_cases c61 : 0 ≤ (ji60)
                 ·
                  rw [if_pos c61] at H
                  have c61b0 : decide (0 ≤ (ji60)) = true := decide_eq_true c61
                  clear c61
                  by_cases c62 : (ji60) < (a1.size : Int)
                  ·
                   rw [if_pos c62] at H
                   have c62b0 : decide ((ji60) < (a1.size : Int)) = true := decide_eq_true c62
                   clear c62
                   by_cases c64 : (bt a0 x17_1) = (bt a1 (ji60))
                   ·
                    rw [if_pos c64] at H
                    have c64b0 : ((bt a0 x17_1) == (bt a1 (ji60))) = true := beq_iff_eq.mpr c64
                    have c64b1 : ((bt a0 x17_1) != (bt a1 (ji60))) = false := bne_eq_false_iff_eq.mpr c64
                    clear c64
                    by_cases c65 : (ji60) < (x5_1.length : Int)
                    ·
                     rw [if_pos c65] at H
                     have c65b0 : decide ((ji60) < (x5_1.length : Int)) = true := decide_eq_true c65
                     clear c65
                     by_cases c66 : 0 ≤ x26_2
                     ·
                      rw [if_pos c66] at H
                      have c66b0 : decide (0 ≤ x26_2) = true := decide_eq_true c66
                      clear c66
                      by_cases c67 : x26_2 < (x7_2.length : Int)
                      ·
                       rw [if_pos c67] at H
                       have c67b0 : decide (x26_2 < (x7_2.length : Int)) = true := decide_eq_true c67
                       clear c67
                       obtain ⟨y144, hy144⟩ : ∃ y_ : List Bool, y_ = (x7_2.set (x26_2 : Int).toNat (rdOf false x5_1 (ji60))) := ⟨_, rfl⟩
                       replace H : (impl_fits.l1 k2 a0 a1 x5_1 x17_1 y144 (a0.size : Int) x17_1 (y133.length : Int) (wrap64 (x26_2 + 1))) = some r := by first | (rw [hy144]; with_reducible exact H) | (have H2_ := (Option.bind_some _ _).symm.trans H; rw [hy144]; with_reducible exact H2_) | (have H2_ := (Option.bind_some _ _).symm.trans H; with_reducible exact H2_) | with_reducible exact H | (rw [hy144]; exact H) | exact H
                       have Ny144 := Aside0.mk hy144
                       clear hy144
                       have H' := Aside0.mk H
                       clear H
                       have p22 : 0 ≤ (x17_1 : Int) := of_decide_eq_true (by first | (with_reducible assumption) | assumption)
                       have q22 : x17_1 < (a0.size : Int) := of_decide_eq_true (by first | (with_reducible assumption) | assumption)
                       have hx22 := bt_at a0 x17_1
                       replace p22 := eq_true p22
                       replace q22 := eq_true q22
                       have p48 : 0 ≤ (x17_1 : Int) := of_decide_eq_true (by first | (with_reducible assumption) | assumption)
                       have q48 : x17_1 < (a0.size : Int) := of_decide_eq_true (by first | (with_reducible assumption) | assumption)
                       have hx48 := bt_at a0 x17_1
                       replace p48 := eq_true p48
                       replace q48 := eq_true q48
                       have p59 : 0 ≤ (x17_1 : Int) := of_decide_eq_true (by first | (with_reducible assumption) | assumption)
                       have q59 : x17_1 < (a0.size : Int) := of_decide_eq_true (by first | (with_reducible assumption) | assumption)
                       have hx59 := bt_at a0 x17_1
                       replace p59 := eq_true p59
                       replace q59 := eq_true q59
                       have p63 : 0 ≤ ((ji60) : Int) := of_decide_eq_true (by first | (with_reducible assumption) | assumption)
                       have q63 : (ji60) < (a1.size : Int) := of_decide_eq_true (by first | (with_reducible assumption) | assumption)
                       have hx63 := bt_at a1 (ji60)
                       replace p63 := eq_true p63
                       replace q63 := eq_true q63
                       obtain ⟨Ao69, co69, eo69⟩ := Kd.R_slice HO_5.out
                       subst eo69
                       have p143 : 0 ≤ ((ji60) : Int) := of_decide_eq_true (by first | (with_reducible assumption) | assumption)
                       have q143 : (ji60) < (x5_1.length : Int) := of_decide_eq_true (by first | (with_reducible assumption) | assumption)
                       obtain ⟨ad143, e143, hx143_0⟩ := Kd.at_bool (Kd.R_reads' HO_5.out).2.2 (ji60) p143 q143
                       cases e143
                       replace p143 := eq_true p143
                       replace q143 := eq_true q143
                       have p68 : 0 ≤ (x26_2 : Int) := of_decide_eq_true (by first | (with_reducible assumption) | assumption)
                       have q68 : (x26_2 : Int) < ((x7_2.length : Int) : Int) := of_decide_eq_true (by first | (with_reducible assumption) | assumption)
                       obtain ⟨go68, co68, eo68, gb68, gl68, cl68, HG68⟩ := Kd.R_form HO_7.out (by omega)
                       (first | cases eo68 | (injection eo68 with ea_ en_ ec_; (first | subst ea_ | (injection ea_ with ea_; subst ea_)); subst ec_; clear en_))
                       have GB68 := Aside0.mk gb68
                       have GG68 := Aside0.mk HG68
                       clear gb68 gl68 HG68
                       obtain ⟨hx68_0, hf68_0⟩ := Kd.R_celln false HO_7.out (x26_2 : Int) p68 q68
                       (try simp only [Int.toNat_natCast] at hx68_0 hf68_0)
                       replace p68 := eq_true p68
                       replace q68 := eq_true q68
                       have HP70 := Kd.R_putg HO_7.out (x26_2 : Int) (rdOf false x5_1 (ji60))
                       go_wp2_with (first | ((with_reducible refine gate_store (t := 4) (p := 78) rfl ?_); (try (rw [drewN_self wr]; generalize hq_ : World.drewN wr _ = wr; have n0_ := Aside0.mk (Kd.R_at hq_ HO_5.out); have n1_ := Aside0.mk (Kd.R_at hq_ HO_7.out); have n2_ := Aside0.mk (below_at hq_ HB.out); clear hq_ HO_5 HO_7 HB; have HO_5 := n0_; have HO_7 := n1_; have HB := n2_; clear n0_ n1_ n2_; (try (have HP70 := Kd.R_putg HO_7.out (x26_2 : Int) (rdOf false x5_1 (ji60)))))); refine store_event (t := 4) (p := 78) (v := ?vo_w71) (w1 := (wr.setCell ⟨go68, (x26_2 : Int).toNat, none⟩ (.bool (rdOf false x5_1 (ji60))))) ?hg ?ho ?hn ?hr ?_; (case ho => rfl); (case hg => rfl); (case hn => rfl); (case hr => first | (go_simp; done) | (go_simp; rfl)); intro w71 hw; have hg : wr.grownBy w71 (some go68) := (by rw [hw]; exact HP70.2); have hp_ : Kd.R Kd.bool 4 w71 w.heap.size (fun k_ => some k_ ≠ (.slice (some ad143) x5_1.length co69 : Value).ownBlock) (.slice (some ⟨go68, 0, none⟩) x7_2.length co18) y144 := (by rw [hw, Ny144.out]; exact HP70.1); clear HP70; have n0_ := Aside0.mk (Kd.R_after (v := (.slice (some ⟨go68, 0, none⟩) x7_2.length co18)) (v1 := (.slice (some ⟨go68, 0, none⟩) x7_2.length co18)) (ok := (fun _ => True)) (by (with_reducible repeat (first | apply Kd.R_alloc | apply Kd.R_drewN | apply Kd.R_drew)); exact Kd.R_mono HO_5.out (fun _ hk => ⟨trivial, hk⟩)) hg (.inl rfl)); have n1_ := Aside0.mk (hp_); have n2_ := Aside0.mk ((by rw [hw]; exact below_set (HB.out) GB68.out : Below w.heap.size w w71)); clear HO_5; clear HO_7; clear HB; have HO_5 := n0_; have HO_7 := n1_; have HB := n2_; clear n0_ n1_ n2_; clear hg hw hp_))
                       repeat (go_quiet (first | ((with_reducible refine gate_store (t := 4) (p := 78) rfl ?_); (try (rw [drewN_self wr]; generalize hq_ : World.drewN wr _ = wr; have n0_ := Aside0.mk (Kd.R_at hq_ HO_5.out); have n1_ := Aside0.mk (Kd.R_at hq_ HO_7.out); have n2_ := Aside0.mk (below_at hq_ HB.out); clear hq_ HO_5 HO_7 HB; have HO_5 := n0_; have HO_7 := n1_; have HB := n2_; clear n0_ n1_ n2_; (try (have HP70 := Kd.R_putg HO_7.out (x26_2 : Int) (rdOf false x5_1 (ji60)))))); refine store_event (t := 4) (p := 78) (v := ?vo_w71) (w1 := (wr.setCell ⟨go68, (x26_2 : Int).toNat, none⟩ (.bool (rdOf false x5_1 (ji60))))) ?hg ?ho ?hn ?hr ?_; (case ho => rfl); (case hg => rfl); (case hn => rfl); (case hr => first | (go_simp; done) | (go_simp; rfl)); intro w71 hw; have hg : wr.grownBy w71 (some go68) := (by rw [hw]; exact HP70.2); have hp_ : Kd.R Kd.bool 4 w71 w.heap.size (fun k_ => some k_ ≠ (.slice (some ad143) x5_1.length co69 : Value).ownBlock) (.slice (some ⟨go68, 0, none⟩) x7_2.length co18) y144 := (by rw [hw, Ny144.out]; exact HP70.1); clear HP70; have n0_ := Aside0.mk (Kd.R_after (v := (.slice (some ⟨go68, 0, none⟩) x7_2.length co18)) (v1 := (.slice (some ⟨go68, 0, none⟩) x7_2.length co18)) (ok := (fun _ => True)) (by (with_reducible repeat (first | apply Kd.R_alloc | apply Kd.R_drewN | apply Kd.R_drew)); exact Kd.R_mono HO_5.out (fun _ hk => ⟨trivial, hk⟩)) hg (.inl rfl)); have n1_ := Aside0.mk (hp_); have n2_ := Aside0.mk ((by rw [hw]; exact below_set (HB.out) GB68.out : Below w.heap.size w w71)); clear HO_5; clear HO_7; clear HB; have HO_5 := n0_; have HO_7 := n1_; have HB := n2_; clear n0_ n1_ n2_; clear hg hw hp_)); try go_wp2_with (first | ((with_reducible refine gate_store (t := 4) (p := 78) rfl ?_); (try (rw [drewN_self wr]; generalize hq_ : World.drewN wr _ = wr; have n0_ := Aside0.mk (Kd.R_at hq_ HO_5.out); have n1_ := Aside0.mk (Kd.R_at hq_ HO_7.out); have n2_ := Aside0.mk (below_at hq_ HB.out); clear hq_ HO_5 HO_7 HB; have HO_5 := n0_; have HO_7 := n1_; have HB := n2_; clear n0_ n1_ n2_; (try (have HP70 := Kd.R_putg HO_7.out (x26_2 : Int) (rdOf false x5_1 (ji60)))))); refine store_event (t := 4) (p := 78) (v := ?vo_w71) (w1 := (wr.setCell ⟨go68, (x26_2 : Int).toNat, none⟩ (.bool (rdOf false x5_1 (ji60))))) ?hg ?ho ?hn ?hr ?_; (case ho => rfl); (case hg => rfl); (case hn => rfl); (case hr => first | (go_simp; done) | (go_simp; rfl)); intro w71 hw; have hg : wr.grownBy w71 (some go68) := (by rw [hw]; exact HP70.2); have hp_ : Kd.R Kd.bool 4 w71 w.heap.size (fun k_ => some k_ ≠ (.slice (some ad143) x5_1.length co69 : Value).ownBlock) (.slice (some ⟨go68, 0, none⟩) x7_2.length co18) y144 := (by rw [hw, Ny144.out]; exact HP70.1); clear HP70; have n0_ := Aside0.mk (Kd.R_after (v := (.slice (some ⟨go68, 0, none⟩) x7_2.length co18)) (v1 := (.slice (some ⟨go68, 0, none⟩) x7_2.length co18)) (ok := (fun _ => True)) (by (with_reducible repeat (first | apply Kd.R_alloc | apply Kd.R_drewN | apply Kd.R_drew)); exact Kd.R_mono HO_5.out (fun _ hk => ⟨trivial, hk⟩)) hg (.inl rfl)); have n1_ := Aside0.mk (hp_); have n2_ := Aside0.mk ((by rw [hw]; exact below_set (HB.out) GB68.out : Below w.heap.size w w71)); clear HO_5; clear HO_7; clear HB; have HO_5 := n0_; have HO_7 := n1_; have HB := n2_; clear n0_ n1_ n2_; clear hg hw hp_)))
                       (try simp only [← hl7_2])
                       go_roundg k2
                       case measure => have := HK1.out; have := HK2.out; omega
                       case rel => exact ⟨(y144), (wrap64 (x26_2 + 1)), (by first | rfl | (simp; done) | (simp [*]; done)), H', ⟨by have := HK1.out; have := HK2.out; omega⟩, ⟨by (try simp only [hl7_2]); (with_reducible repeat (first | apply Kd.R_alloc | apply Kd.R_drewN | apply Kd.R_drew)); first | exact Kd.R_mono HO_5.out (fun _ hk => hk.2) | exact Kd.R_far (by (with_reducible repeat (first | apply Kd.R_drewN)); exact HO_5.out) (fun k_ hk_ e_ => hk_ (by rw [e_]; rfl)) _⟩, ⟨by (try simp only [hl7_2]); (with_reducible repeat (first | apply Kd.R_alloc | apply Kd.R_drewN | apply Kd.R_drew)); first | exact HO_7.out | (rw [Ny144.out]; exact (Kd.R_putg (by (with_reducible repeat (first | apply Kd.R_drewN)); exact HO_7.out) (x26_2 : Int) (rdOf false x5_1 (ji60))).1)⟩, ⟨by first | exact below_set (by repeat (first | exact HB.out | apply pw_below_drewN)) GB68.out | repeat (first | (with_reducible first | exact HB.out | apply below_alloc | apply pw_below_drewN | apply below_drew1) | exact HB.out)⟩⟩
                      ·
                       rw [if_neg c67] at H
                       exact absurd H (by simp)
                     ·
                      rw [if_neg c66] at H
                      exact absurd H (by simp)
                    ·
                     rw [if_neg c65] at H
                     exact absurd H (by simp)
                   ·
                    rw [if_neg c64] at H
                    have c64b0 : ((bt a0 x17_1) == (bt a1 (ji60))) = false := beq_eq_false_iff_ne.mpr c64
                    have c64b1 : ((bt a0 x17_1) != (bt a1 (ji60))) = true := bne_iff_ne.mpr c64
                    have H' := Aside0.mk H
                    clear H
                    have p22 : 0 ≤ (x17_1 : Int) := of_decide_eq_true (by first | (with_reducible assumption) | assumption)
                    have q22 : x17_1 < (a0.size : Int) := of_decide_eq_true (by first | (with_reducible assumption) | assumption)
                    have hx22 := bt_at a0 x17_1
                    replace p22 := eq_true p22
                    replace q22 := eq_true q22
                    have p48 : 0 ≤ (x17_1 : Int) := of_decide_eq_true (by first | (with_reducible assumption) | assumption)
                    have q48 : x17_1 < (a0.size : Int) := of_decide_eq_true (by first | (with_reducible assumption) | assumption)
                    have hx48 := bt_at a0 x17_1
                    replace p48 := eq_true p48
                    replace q48 := eq_true q48
                    have p59 : 0 ≤ (x17_1 : Int) := of_decide_eq_true (by first | (with_reducible assumption) | assumption)
                    have q59 : x17_1 < (a0.size : Int) := of_decide_eq_true (by first | (with_reducible assumption) | assumption)
                    have hx59 := bt_at a0 x17_1
                    replace p59 := eq_true p59
                    replace q59 := eq_true q59
                    have p63 : 0 ≤ ((ji60) : Int) := of_decide_eq_true (by first | (with_reducible assumption) | assumption)
                    have q63 : (ji60) < (a1.size : Int) := of_decide_eq_true (by first | (with_reducible assumption) | assumption)
                    have hx63 := bt_at a1 (ji60)
                    replace p63 := eq_true p63
                    replace q63 := eq_true q63
                    go_wp2
                    repeat (go_quiet (fail); try go_wp2)
                    (try simp only [← hl7_2])
                    go_roundg k2
                    case measure => have := HK1.out; have := HK2.out; omega
                    case rel => exact ⟨(x7_2), (wrap64 (x26_2 + 1)), (by first | rfl | (simp; done) | (simp [*]; done)), H', ⟨by have := HK1.out; have := HK2.out; omega⟩, ⟨by (try simp only [hl7_2]); (with_reducible repeat (first | apply Kd.R_alloc | apply Kd.R_drewN | apply Kd.R_drew)); exact HO_5.out⟩, ⟨by (try simp only [hl7_2]); (with_reducible repeat (first | apply Kd.R_alloc | apply Kd.R_drewN | apply Kd.R_drew)); exact HO_7.out⟩, ⟨by repeat (first | (with_reducible first | exact HB.out | apply below_alloc | apply pw_below_drewN | apply below_drew1) | exact HB.out)⟩⟩
                  ·
                   rw [if_neg c62] at H
                   exact absurd H (by simp)
                 ·
                  rw [if_neg c61] at H
                  exact absurd H (by simp)
               ·
                rw [if_neg c47] at H
                have c47b0 : decide (0 < x26_2) = false := decide_eq_false c47
                clear c47
                have H' := Aside0.mk H
                clear H
                have p22 : 0 ≤ (x17_1 : Int) := of_decide_eq_true (by first | (with_reducible assumption) | assumption)
                have q22 : x17_1 < (a0.size : Int) := of_decide_eq_true (by first | (with_reducible assumption) | assumption)
                have hx22 := bt_at a0 x17_1
                replace p22 := eq_true p22
                replace q22 := eq_true q22
                go_wp2
                repeat (go_quiet (fail); try go_wp2)
                (try simp only [← hl7_2])
                go_roundg k2
                case measure => have := HK1.out; have := HK2.out; omega
                case rel => exact ⟨(x7_2), (wrap64 (x26_2 + 1)), (by first | rfl | (simp; done) | (simp [*]; done)), H', ⟨by have := HK1.out; have := HK2.out; omega⟩, ⟨by (try simp only [hl7_2]); (with_reducible repeat (first | apply Kd.R_alloc | apply Kd.R_drewN | apply Kd.R_drew)); exact HO_5.out⟩, ⟨by (try simp only [hl7_2]); (with_reducible repeat (first | apply Kd.R_alloc | apply Kd.R_drewN | apply Kd.R_drew)); exact HO_7.out⟩, ⟨by repeat (first | (with_reducible first | exact HB.out | apply below_alloc | apply pw_below_drewN | apply below_drew1) | exact HB.out)⟩⟩
             ·
              rw [if_neg c21] at H
              exact absurd H (by simp)
            ·
             rw [if_neg c20] at H
             exact absurd H (by simp)
           ·
            rw [if_neg c19] at H
            have c19b0 : decide (x26_2 < (y133.length : Int)) = false := decide_eq_false c19
            (try have c19b7 : decide (x26_2 < (x7_2.length : Int)) = false := by rw [← hl7_2]; exact c19b0)
            clear c19
            have H' := Aside0.mk H
            clear H
            go_wp2
            repeat (go_quiet (fail); try go_wp2)
            (try simp only [← hl7_2])
            go_roundg k2
            case measure => have := HK1.out; have := HK2.out; omega
            case rel => exact ⟨(x7_2), (wrap64 (x17_1 + 1)), (by first | rfl | (simp; done) | (simp [*]; done)), H', ⟨by have := HK1.out; have := HK2.out; omega⟩, ⟨by (try simp only [hl7_2]); (with_reducible repeat (first | apply Kd.R_alloc | apply Kd.R_drewN | apply Kd.R_drew)); exact Kd.R_mono HO_7.out (fun _ hk => trivial)⟩, ⟨by repeat (first | (with_reducible first | exact HB.out | apply below_alloc | apply pw_below_drewN | apply below_drew1) | exact HB.out)⟩⟩
        ·
         rw [if_neg c15] at H
         exact absurd H (by simp)
       ·
        rw [if_neg c14] at H
        exact absurd H (by simp)
      ·
       rw [if_neg c12] at H
       have c12b0 : decide (x17_1 < (a0.size : Int)) = false := decide_eq_false c12
       clear c12
       by_cases c72 : 0 ≤ (a1.size : Int)
       ·
        rw [if_pos c72] at H
        have c72b0 : decide (0 ≤ (a1.size : Int)) = true := decide_eq_true c72
        have c72b1 : decide (0 ≤ a1.size) = true := decide_eq_true (by omega)
        clear c72
        by_cases c73 : (a1.size : Int) < (x5_1.length : Int)
        ·
         rw [if_pos c73] at H
         have c73b0 : decide ((a1.size : Int) < (x5_1.length : Int)) = true := decide_eq_true c73
         have c73b1 : decide (a1.size < x5_1.length) = true := decide_eq_true (Int.ofNat_lt.mp c73)
         clear c73
         obtain rfl := Option.some.inj H
         obtain ⟨Ao74, co74, eo74⟩ := Kd.R_slice HO_5.out
         subst eo74
         have p132 : 0 ≤ ((a1.size : Int) : Int) := of_decide_eq_true (by first | (with_reducible assumption) | assumption)
         have q132 : (a1.size : Int) < (x5_1.length : Int) := of_decide_eq_true (by first | (with_reducible assumption) | assumption)
         obtain ⟨ad132, e132, hx132_0⟩ := Kd.at_bool (Kd.R_reads' HO_5.out).2.2 (a1.size : Int) p132 q132
         cases e132
         (try simp only [Int.toNat_natCast] at hx132_0)
         replace p132 := eq_true p132
         replace q132 := eq_true q132
         go_wp2
         repeat (go_quiet (fail); try go_wp2)
         go_ret
         exact ⟨by first | rfl | (simp [errW_none, errW_some] <;> rfl) | (simp only [← hji3]; first | rfl | (simp [errW_none, errW_some] <;> rfl)) | (simp [*, errW_none, errW_some] <;> rfl), by repeat (first | (with_reducible first | exact HB.out | apply below_alloc | apply pw_below_drewN | apply below_drew1) | exact HB.out)⟩
        ·
         rw [if_neg c73] at H
         exact absurd H (by simp)
       ·
        rw [if_neg c72] at H
        exact absurd H (by simp)
   ·
    rw [if_neg c6] at H
    exact absurd H (by simp)
  ·
   rw [if_neg c5] at H
   exact absurd H (by simp)
 ·
  rw [if_neg c4] at H
  exact absurd H (by simp)
def impl_DoesFit.f (k : Nat) (a0 : ByteArray) (a1 : ByteArray) : Option (Bool × Bool) := (impl_isPattern.f a0).bind fun t145 => (if t145 = true then ((impl_isWord.f a1).bind fun t146 => (if t146 = true then ((impl_fits.f k a0 a1).bind fun t147 => (some (t147, true))) else (some (false, false)))) else (some (false, false)))
theorem impl_DoesFit.mono : ∀ a0 a1 k, LeO (impl_DoesFit.f k a0 a1) (impl_DoesFit.f (k + 1) a0 a1) := by
 intro a0 a1 k
 unfold impl_DoesFit.f
 repeat' first
   | (with_reducible exact impl_fits.mono _ _ _)
   | (with_reducible exact LeO.refl _)
   | (with_reducible exact LeO.none _)
   | (with_reducible refine LeO.ite ?_ ?_)
   | (with_reducible refine LeO.bind ?_ (fun _ => ?_))
   | exact impl_fits.mono _ _ _
   | exact LeO.none _
   | refine LeO.ite ?_ ?_
   | refine LeO.bind ?_ (fun _ => ?_)
set_option maxHeartbeats 8000000 in
set_option maxRecDepth 100000 in
theorem impl_DoesFit.calls (k : Nat) (a0 : ByteArray) (a1 : ByteArray) (r1 : Bool) (r2 : Bool) (w : World) (h : impl_DoesFit.f k a0 a1 = some (r1, r2)) :
  Calls Tryd.prog 8 #[.string a0, .string a1] w fun e w' => e = .returned (.tuple #[.bool r1, .bool r2]) ∧ Below w.heap.size w w' := by
 have HB := Aside0.mk (Below.refl w.heap.size w)
 have H : ((impl_isPattern.f a0).bind fun t145 => (if t145 = true then ((impl_isWord.f a1).bind fun t146 => (if t146 = true then ((impl_fits.f k a0 a1).bind fun t147 => (some (t147, true))) else (some (false, false)))) else (some (false, false)))) = some (r1, r2) := h
 clear h
 replace H := Option.bind_eq_some_iff.mp H
 obtain ⟨t145, A30, H⟩ := H
 replace H : (if t145 = true then ((impl_isWord.f a1).bind fun t146 => (if t146 = true then ((impl_fits.f k a0 a1).bind fun t147 => (some (t147, true))) else (some (false, false)))) else (some (false, false))) = some (r1, r2) := H
 have A3 := Aside0.mk A30
 clear A30
 by_cases c4 : t145 = true
 ·
  subst c4
  have H1 : ((impl_isWord.f a1).bind fun t146 => (if t146 = true then ((impl_fits.f k a0 a1).bind fun t147 => (some (t147, true))) else (some (false, false)))) = some (r1, r2) := by rw [if_pos rfl] at H; exact H
  clear H
  have H := H1
  clear H1
  replace H := Option.bind_eq_some_iff.mp H
  obtain ⟨t146, A50, H⟩ := H
  replace H : (if t146 = true then ((impl_fits.f k a0 a1).bind fun t147 => (some (t147, true))) else (some (false, false))) = some (r1, r2) := H
  have A5 := Aside0.mk A50
  clear A50
  by_cases c6 : t146 = true
  ·
   subst c6
   have H1 : ((impl_fits.f k a0 a1).bind fun t147 => (some (t147, true))) = some (r1, r2) := by rw [if_pos rfl] at H; exact H
   clear H
   have H := H1
   clear H1
   replace H := Option.bind_eq_some_iff.mp H
   obtain ⟨t147, A70, H⟩ := H
   replace H : (some (t147, true)) = some (r1, r2) := H
   have A7 := Aside0.mk A70
   clear A70
   simp only [Option.some.injEq, Prod.mk.injEq] at H
   obtain ⟨rfl, rfl⟩ := H
   go_enter Tryd.func8, Tryd.ntmps8
   go_wp2_with (first | ((with_reducible refine gate_callee (f := 10) rfl ?_); refine goesL_ (some 7) rfl rfl Tryd.func10 (by kernel_rfl) rfl #[.string a0] rfl (by (try simp only [List.map_toArray, List.map_cons, List.map_nil]); first | done | rfl | (simp only [List.length_drop, List.length_take]; rfl)) ?_; (with_reducible refine (impl_isPattern.calls a0 true _ A3.out).mono ?_); rintro e w8 ⟨rfl, hb⟩; refine ⟨_, rfl, ?_⟩; have n0_ := Aside0.mk (below_step (by repeat (first | (with_reducible first | exact HB.out | apply below_alloc | apply pw_below_drewN | apply below_drew1) | exact HB.out)) hb); clear HB; have HB := n0_; clear n0_; (try clear hb); (try clear hb2); (try clear hk); (try clear hi)) | (go_at_call 13; (with_reducible refine (impl_isWord.calls a1 true _ A5.out).mono ?_); rintro e w9 ⟨rfl, hb⟩; have n0_ := Aside0.mk (below_step (by repeat (first | (with_reducible first | exact HB.out | apply below_alloc | apply pw_below_drewN | apply below_drew1) | exact HB.out)) hb); clear HB; have HB := n0_; clear n0_; (try clear hb); (try clear hb2); (try clear hk); (try clear hi)) | ((with_reducible refine gate_callee (f := 14) rfl ?_); refine goesL_ (some 16) rfl rfl Tryd.func14 (by kernel_rfl) rfl #[.string a0, .string a1] rfl (by (try simp only [List.map_toArray, List.map_cons, List.map_nil]); first | done | rfl | (simp only [List.length_drop, List.length_take]; rfl)) ?_; (with_reducible refine (impl_fits.calls k a0 a1 t147 _ A7.out).mono ?_); rintro e w10 ⟨rfl, hb⟩; refine ⟨_, rfl, ?_⟩; have n0_ := Aside0.mk (below_step (by repeat (first | (with_reducible first | exact HB.out | apply below_alloc | apply pw_below_drewN | apply below_drew1) | exact HB.out)) hb); clear HB; have HB := n0_; clear n0_; (try clear hb); (try clear hb2); (try clear hk); (try clear hi)))
   go_ret2
   exact ⟨by first | rfl | (simp [errW_none, errW_some] <;> rfl) | (simp [*, errW_none, errW_some] <;> rfl), by repeat (first | (with_reducible first | exact HB.out | apply below_alloc | apply pw_below_drewN | apply below_drew1) | exact HB.out)⟩
  ·
   replace c6 := Bool.eq_false_iff.mpr c6
   subst c6
   have H1 : (some (false, false)) = some (r1, r2) := by rw [if_neg (show ¬ (false = true) by decide)] at H; exact H
   clear H
   have H := H1
   clear H1
   simp only [Option.some.injEq, Prod.mk.injEq] at H
   obtain ⟨rfl, rfl⟩ := H
   go_enter Tryd.func8, Tryd.ntmps8
   go_wp2_with (first | ((with_reducible refine gate_callee (f := 10) rfl ?_); refine goesL_ (some 7) rfl rfl Tryd.func10 (by kernel_rfl) rfl #[.string a0] rfl (by (try simp only [List.map_toArray, List.map_cons, List.map_nil]); first | done | rfl | (simp only [List.length_drop, List.length_take]; rfl)) ?_; (with_reducible refine (impl_isPattern.calls a0 true _ A3.out).mono ?_); rintro e w11 ⟨rfl, hb⟩; refine ⟨_, rfl, ?_⟩; have n0_ := Aside0.mk (below_step (by repeat (first | (with_reducible first | exact HB.out | apply below_alloc | apply pw_below_drewN | apply below_drew1) | exact HB.out)) hb); clear HB; have HB := n0_; clear n0_; (try clear hb); (try clear hb2); (try clear hk); (try clear hi)) | (go_at_call 13; (with_reducible refine (impl_isWord.calls a1 false _ A5.out).mono ?_); rintro e w12 ⟨rfl, hb⟩; have n0_ := Aside0.mk (below_step (by repeat (first | (with_reducible first | exact HB.out | apply below_alloc | apply pw_below_drewN | apply below_drew1) | exact HB.out)) hb); clear HB; have HB := n0_; clear n0_; (try clear hb); (try clear hb2); (try clear hk); (try clear hi)))
   go_ret2
   exact ⟨by first | rfl | (simp [errW_none, errW_some] <;> rfl) | (simp [*, errW_none, errW_some] <;> rfl), by repeat (first | (with_reducible first | exact HB.out | apply below_alloc | apply pw_below_drewN | apply below_drew1) | exact HB.out)⟩
 ·
  replace c4 := Bool.eq_false_iff.mpr c4
  subst c4
  have H1 : (some (false, false)) = some (r1, r2) := by rw [if_neg (show ¬ (false = true) by decide)] at H; exact H
  clear H
  have H := H1
  clear H1
  simp only [Option.some.injEq, Prod.mk.injEq] at H
  obtain ⟨rfl, rfl⟩ := H
  go_enter Tryd.func8, Tryd.ntmps8
  go_wp2_with (first | ((with_reducible refine gate_callee (f := 10) rfl ?_); refine goesL_ (some 7) rfl rfl Tryd.func10 (by kernel_rfl) rfl #[.string a0] rfl (by (try simp only [List.map_toArray, List.map_cons, List.map_nil]); first | done | rfl | (simp only [List.length_drop, List.length_take]; rfl)) ?_; (with_reducible refine (impl_isPattern.calls a0 false _ A3.out).mono ?_); rintro e w13 ⟨rfl, hb⟩; refine ⟨_, rfl, ?_⟩; have n0_ := Aside0.mk (below_step (by repeat (first | (with_reducible first | exact HB.out | apply below_alloc | apply pw_below_drewN | apply below_drew1) | exact HB.out)) hb); clear HB; have HB := n0_; clear n0_; (try clear hb); (try clear hb2); (try clear hk); (try clear hi)))
  go_ret2
  exact ⟨by first | rfl | (simp [errW_none, errW_some] <;> rfl) | (simp [*, errW_none, errW_some] <;> rfl), by repeat (first | (with_reducible first | exact HB.out | apply below_alloc | apply pw_below_drewN | apply below_drew1) | exact HB.out)⟩
def laws_FnExactDoesFit.f (k : Nat) (a0 : ByteArray) (a1 : ByteArray) : Option (Bool) := if (a0.size : Int) > 1048576 then (some true) else (if (a1.size : Int) > 1048576 then (some true) else ((spec_DoesFit.f k a0 a1).bind fun bt148 => ((impl_DoesFit.f k a0 a1).bind fun bt150 => (if (bt150.1 != bt148.1) = true then (some false) else (if (bt150.2 != bt148.2) = true then (some false) else (some true))))))
theorem laws_FnExactDoesFit.mono : ∀ a0 a1 k, LeO (laws_FnExactDoesFit.f k a0 a1) (laws_FnExactDoesFit.f (k + 1) a0 a1) := by
 intro a0 a1 k
 unfold laws_FnExactDoesFit.f
 repeat' first
   | (with_reducible exact impl_DoesFit.mono _ _ _)
   | (with_reducible exact spec_DoesFit.mono _ _ _)
   | (with_reducible exact LeO.refl _)
   | (with_reducible exact LeO.none _)
   | (with_reducible refine LeO.ite ?_ ?_)
   | (with_reducible refine LeO.bind ?_ (fun _ => ?_))
   | exact impl_DoesFit.mono _ _ _
   | exact spec_DoesFit.mono _ _ _
   | exact LeO.none _
   | refine LeO.ite ?_ ?_
   | refine LeO.bind ?_ (fun _ => ?_)
set_option maxHeartbeats 8000000 in
set_option maxRecDepth 100000 in
theorem laws_FnExactDoesFit.calls (k : Nat) (a0 : ByteArray) (a1 : ByteArray) (r : Bool) (w : World) (h : laws_FnExactDoesFit.f k a0 a1 = some r) :
  Calls Tryd.prog 4 #[.string a0, .string a1] w fun e w' => e = .returned (.bool r) ∧ Below w.heap.size w w' := by
 have HB := Aside0.mk (Below.refl w.heap.size w)
 have H : (if (a0.size : Int) > 1048576 then (some true) else (if (a1.size : Int) > 1048576 then (some true) else ((spec_DoesFit.f k a0 a1).bind fun bt148 => ((impl_DoesFit.f k a0 a1).bind fun bt150 => (if (bt150.1 != bt148.1) = true then (some false) else (if (bt150.2 != bt148.2) = true then (some false) else (some true))))))) = some r := h
 clear h
 by_cases c3 : (a0.size : Int) > 1048576
 ·
  rw [if_pos c3] at H
  have c3b0 : decide (1048576 < (a0.size : Int)) = true := decide_eq_true c3
  have c3b1 : decide (1048576 < a0.size) = true := decide_eq_true (by omega)
  clear c3
  obtain rfl := Option.some.inj H
  go_enter Tryd.func4, Tryd.ntmps4
  go_wp2
  go_ret
  exact ⟨by first | rfl | (simp [errW_none, errW_some] <;> rfl) | (simp [*, errW_none, errW_some] <;> rfl), by repeat (first | (with_reducible first | exact HB.out | apply below_alloc | apply pw_below_drewN | apply below_drew1) | exact HB.out)⟩
 ·
  rw [if_neg c3] at H
  have c3b0 : decide (1048576 < (a0.size : Int)) = false := decide_eq_false c3
  have c3b1 : decide (1048576 < a0.size) = false := decide_eq_false (by omega)
  clear c3
  by_cases c4 : (a1.size : Int) > 1048576
  ·
   rw [if_pos c4] at H
   have c4b0 : decide (1048576 < (a1.size : Int)) = true := decide_eq_true c4
   have c4b1 : decide (1048576 < a1.size) = true := decide_eq_true (by omega)
   clear c4
   obtain rfl := Option.some.inj H
   go_enter Tryd.func4, Tryd.ntmps4
   go_wp2
   go_ret
   exact ⟨by first | rfl | (simp [errW_none, errW_some] <;> rfl) | (simp [*, errW_none, errW_some] <;> rfl), by repeat (first | (with_reducible first | exact HB.out | apply below_alloc | apply pw_below_drewN | apply below_drew1) | exact HB.out)⟩
  ·
   rw [if_neg c4] at H
   have c4b0 : decide (1048576 < (a1.size : Int)) = false := decide_eq_false c4
   have c4b1 : decide (1048576 < a1.size) = false := decide_eq_false (by omega)
   clear c4
   replace H := Option.bind_eq_some_iff.mp H
   obtain ⟨⟨t148, t149⟩, A50, H⟩ := H
   replace H : ((impl_DoesFit.f k a0 a1).bind fun bt150 => (if (bt150.1 != t148) = true then (some false) else (if (bt150.2 != t149) = true then (some false) else (some true)))) = some r := H
   have A5 := Aside0.mk A50
   clear A50
   replace H := Option.bind_eq_some_iff.mp H
   obtain ⟨⟨t150, t151⟩, A60, H⟩ := H
   replace H : (if (t150 != t148) = true then (some false) else (if (t151 != t149) = true then (some false) else (some true))) = some r := H
   have A6 := Aside0.mk A60
   clear A60
   by_cases c7 : (t150 != t148) = true
   ·
    rw [if_pos c7] at H
    have c7b0 : (t150 != t148) = true := c7
    (try (have c7b1 : decide (t150 = t148) = false := by simpa using c7))
    (try (have c7b2 : (t150 == t148) = false := by simpa using c7))
    (try (have c7b3 : ¬ (t150 = t148) := by simpa using c7))
    clear c7
    obtain rfl := Option.some.inj H
    go_enter Tryd.func4, Tryd.ntmps4
    go_wp2_with (first | ((with_reducible refine gate_callee (f := 7) rfl ?_); refine goesL_ (some 18) rfl rfl Tryd.func7 (by kernel_rfl) rfl #[.string a0, .string a1] rfl (by (try simp only [List.map_toArray, List.map_cons, List.map_nil]); first | done | rfl | (simp only [List.length_drop, List.length_take]; rfl)) ?_; (with_reducible refine (spec_DoesFit.calls k a0 a1 t148 t149 _ A5.out).mono ?_); rintro e w8 ⟨rfl, hb⟩; refine ⟨_, rfl, ?_⟩; have n0_ := Aside0.mk (below_step (by repeat (first | (with_reducible first | exact HB.out | apply below_alloc | apply pw_below_drewN | apply below_drew1) | exact HB.out)) hb); clear HB; have HB := n0_; clear n0_; (try clear hb); (try clear hb2); (try clear hk); (try clear hi)) | ((with_reducible refine gate_callee (f := 8) rfl ?_); refine goesL_ (some 24) rfl rfl Tryd.func8 (by kernel_rfl) rfl #[.string a0, .string a1] rfl (by (try simp only [List.map_toArray, List.map_cons, List.map_nil]); first | done | rfl | (simp only [List.length_drop, List.length_take]; rfl)) ?_; (with_reducible refine (impl_DoesFit.calls k a0 a1 t150 t151 _ A6.out).mono ?_); rintro e w9 ⟨rfl, hb⟩; refine ⟨_, rfl, ?_⟩; have n0_ := Aside0.mk (below_step (by repeat (first | (with_reducible first | exact HB.out | apply below_alloc | apply pw_below_drewN | apply below_drew1) | exact HB.out)) hb); clear HB; have HB := n0_; clear n0_; (try clear hb); (try clear hb2); (try clear hk); (try clear hi)))
    go_ret
    exact ⟨by first | rfl | (simp [errW_none, errW_some] <;> rfl) | (simp [*, errW_none, errW_some] <;> rfl), by repeat (first | (with_reducible first | exact HB.out | apply below_alloc | apply pw_below_drewN | apply below_drew1) | exact HB.out)⟩
   ·
    rw [if_neg c7] at H
    have c7b0 : (t150 != t148) = false := by simpa using c7
    (try (have c7b1 : decide (t150 = t148) = true := by simpa using c7))
    (try (have c7b2 : (t150 == t148) = true := by simpa using c7))
    clear c7
    by_cases c10 : (t151 != t149) = true
    ·
     rw [if_pos c10] at H
     have c10b0 : (t151 != t149) = true := c10
     (try (have c10b1 : decide (t151 = t149) = false := by simpa using c10))
     (try (have c10b2 : (t151 == t149) = false := by simpa using c10))
     (try (have c10b3 : ¬ (t151 = t149) := by simpa using c10))
     clear c10
     obtain rfl := Option.some.inj H
     go_enter Tryd.func4, Tryd.ntmps4
     go_wp2_with (first | ((with_reducible refine gate_callee (f := 7) rfl ?_); refine goesL_ (some 18) rfl rfl Tryd.func7 (by kernel_rfl) rfl #[.string a0, .string a1] rfl (by (try simp only [List.map_toArray, List.map_cons, List.map_nil]); first | done | rfl | (simp only [List.length_drop, List.length_take]; rfl)) ?_; (with_reducible refine (spec_DoesFit.calls k a0 a1 t148 t149 _ A5.out).mono ?_); rintro e w11 ⟨rfl, hb⟩; refine ⟨_, rfl, ?_⟩; have n0_ := Aside0.mk (below_step (by repeat (first | (with_reducible first | exact HB.out | apply below_alloc | apply pw_below_drewN | apply below_drew1) | exact HB.out)) hb); clear HB; have HB := n0_; clear n0_; (try clear hb); (try clear hb2); (try clear hk); (try clear hi)) | ((with_reducible refine gate_callee (f := 8) rfl ?_); refine goesL_ (some 24) rfl rfl Tryd.func8 (by kernel_rfl) rfl #[.string a0, .string a1] rfl (by (try simp only [List.map_toArray, List.map_cons, List.map_nil]); first | done | rfl | (simp only [List.length_drop, List.length_take]; rfl)) ?_; (with_reducible refine (impl_DoesFit.calls k a0 a1 t150 t151 _ A6.out).mono ?_); rintro e w12 ⟨rfl, hb⟩; refine ⟨_, rfl, ?_⟩; have n0_ := Aside0.mk (below_step (by repeat (first | (with_reducible first | exact HB.out | apply below_alloc | apply pw_below_drewN | apply below_drew1) | exact HB.out)) hb); clear HB; have HB := n0_; clear n0_; (try clear hb); (try clear hb2); (try clear hk); (try clear hi)))
     go_ret
     exact ⟨by first | rfl | (simp [errW_none, errW_some] <;> rfl) | (simp [*, errW_none, errW_some] <;> rfl), by repeat (first | (with_reducible first | exact HB.out | apply below_alloc | apply pw_below_drewN | apply below_drew1) | exact HB.out)⟩
    ·
     rw [if_neg c10] at H
     have c10b0 : (t151 != t149) = false := by simpa using c10
     (try (have c10b1 : decide (t151 = t149) = true := by simpa using c10))
     (try (have c10b2 : (t151 == t149) = true := by simpa using c10))
     clear c10
     obtain rfl := Option.some.inj H
     go_enter Tryd.func4, Tryd.ntmps4
     go_wp2_with (first | ((with_reducible refine gate_callee (f := 7) rfl ?_); refine goesL_ (some 18) rfl rfl Tryd.func7 (by kernel_rfl) rfl #[.string a0, .string a1] rfl (by (try simp only [List.map_toArray, List.map_cons, List.map_nil]); first | done | rfl | (simp only [List.length_drop, List.length_take]; rfl)) ?_; (with_reducible refine (spec_DoesFit.calls k a0 a1 t148 t149 _ A5.out).mono ?_); rintro e w13 ⟨rfl, hb⟩; refine ⟨_, rfl, ?_⟩; have n0_ := Aside0.mk (below_step (by repeat (first | (with_reducible first | exact HB.out | apply below_alloc | apply pw_below_drewN | apply below_drew1) | exact HB.out)) hb); clear HB; have HB := n0_; clear n0_; (try clear hb); (try clear hb2); (try clear hk); (try clear hi)) | ((with_reducible refine gate_callee (f := 8) rfl ?_); refine goesL_ (some 24) rfl rfl Tryd.func8 (by kernel_rfl) rfl #[.string a0, .string a1] rfl (by (try simp only [List.map_toArray, List.map_cons, List.map_nil]); first | done | rfl | (simp only [List.length_drop, List.length_take]; rfl)) ?_; (with_reducible refine (impl_DoesFit.calls k a0 a1 t150 t151 _ A6.out).mono ?_); rintro e w14 ⟨rfl, hb⟩; refine ⟨_, rfl, ?_⟩; have n0_ := Aside0.mk (below_step (by repeat (first | (with_reducible first | exact HB.out | apply below_alloc | apply pw_below_drewN | apply below_drew1) | exact HB.out)) hb); clear HB; have HB := n0_; clear n0_; (try clear hb); (try clear hb2); (try clear hk); (try clear hi)))
     go_ret
     exact ⟨by first | rfl | (simp [errW_none, errW_some] <;> rfl) | (simp [*, errW_none, errW_some] <;> rfl), by repeat (first | (with_reducible first | exact HB.out | apply below_alloc | apply pw_below_drewN | apply below_drew1) | exact HB.out)⟩
def laws_FnExactDoesFit.Pure : Prop := ∀ (a0 : ByteArray) (a1 : ByteArray), a0.size ≤ 140737488351232 → a1.size ≤ 140737488351232 → ∃ k, laws_FnExactDoesFit.f k a0 a1 = some true
theorem laws_FnExactDoesFit.walk (P : laws_FnExactDoesFit.Pure) (a0 : ByteArray) (a1 : ByteArray) (w : World) (w0 : a0.size ≤ 140737488351232) (w1 : a1.size ≤ 140737488351232) :
  Calls Tryd.prog 4 #[.string a0, .string a1] w fun e w' => e = .returned (.bool true) ∧ Below w.heap.size w w' := by
 obtain ⟨k, h⟩ := P a0 a1 w0 w1
 refine (laws_FnExactDoesFit.calls k a0 a1 true w h).mono ?_
 rintro e w' ⟨rfl, hd⟩
 exact ⟨rfl, hd⟩
end Go.Proofs.YtjpepfdpihojfaaDoor.P
namespace Go.Proofs.YtjpepfdpihojfaaDoor.M
open Go.RowKit Go.Proofs.YtjpepfdpihojfaaDoorW.PrintWords
theorem wrap64_id {x : Int} (h0 : -9223372036854775808 ≤ x) (h1 : x ≤ 9223372036854775807) : wrap64 x = x := by unfold wrap64; omega
theorem wrap64_succ (n : Nat) (h : n < 4611686018427387904) : wrap64 ((n : Int) + 1) = ((n + 1 : Nat) : Int) := by rw [wrap64_id (by omega) (by omega)]; rfl
theorem rd_nat (xs : List Int) (n : Nat) : rd xs (n : Int) = xs.getD n 0 := by simp [rd]
theorem getD_lt {α : Type} (z : α) {xs : List α} {n : Nat} (h : n < xs.length) : xs.getD n z = xs[n] := by simp [List.getD_eq_getElem?_getD, h]
theorem drop_cons_getD {α : Type} (z : α) {xs : List α} {n : Nat} (h : n < xs.length) : xs.drop n = xs.getD n z :: xs.drop (n + 1) := by
 rw [getD_lt z h]; exact List.drop_eq_getElem_cons h
theorem take_succ_getD {α : Type} (z : α) {xs : List α} {n : Nat} (h : n < xs.length) : xs.take (n + 1) = xs.take n ++ [xs.getD n z] := by
 rw [getD_lt z h, List.take_succ_eq_append_getElem h]
theorem fill_set {α : Type} (z : α) (xs : List α) (n : Nat) (h : n < xs.length) (y : α) : (xs.take n ++ List.replicate (xs.length - n) y).set n (xs.getD n z) = xs.take (n + 1) ++ List.replicate (xs.length - (n + 1)) y := by
 have hl : (xs.take n).length = n := by simp; omega
 rw [List.set_append_right _ _ (by omega), hl, Nat.sub_self, show xs.length - n = (xs.length - (n + 1)) + 1 from by omega, List.replicate_succ, List.set_cons_zero, take_succ_getD z h, List.append_assoc]
 rfl
theorem ite_eqT {α : Type} {c : Prop} [Decidable c] {a b : α} (h : c) : (if c then a else b) = a := if_pos h
theorem ite_eqF {α : Type} {c : Prop} [Decidable c] {a b : α} (h : ¬ c) : (if c then a else b) = b := if_neg h
theorem Ev.bind' {α β : Type} {g : Nat → Option α} {f : Nat → α → Option β} {a : α} {r : β} (h : Ev g a) (k : Ev (fun n => f n a) r) : Ev (fun n => (g n).bind fun t => f n t) r := Ev.bind h k
theorem Ev.pure {α : Type} {r : α} : Ev (fun _ => some r) r := Ev.now r
theorem Ev.some_bind {α β : Type} {a : α} {f : Nat → α → Option β} {r : β} (k : Ev (fun n => f n a) r) : Ev (fun n => (some a).bind fun t => f n t) r := k
theorem Ev.ifT {α : Type} {c : Prop} [Decidable c] {f g : Nat → Option α} {r : α} (h : c) (k : Ev f r) : Ev (fun n => if c then f n else g n) r := by simpa only [if_pos h] using k
theorem Ev.ifF {α : Type} {c : Prop} [Decidable c] {f g : Nat → Option α} {r : α} (h : ¬ c) (k : Ev g r) : Ev (fun n => if c then f n else g n) r := by simpa only [if_neg h] using k
def B (l : List UInt8) : ByteArray := ⟨l.toArray⟩
theorem exB (a : ByteArray) : ∃ l, a = B l := ⟨a.data.toList, ByteArray.ext (by simp [B])⟩
@[simp] theorem data_B (l : List UInt8) : (B l).data.toList = l := by simp [B]
@[simp] theorem toList_B (l : List UInt8) : (B l).toList = l := by rw [Go.ByteArray.toList_eq]; simp
@[simp] theorem size_B (l : List UInt8) : (B l).size = l.length := by rw [← ByteArray.size_data, ← Array.length_toList, data_B]
theorem B_data (a : ByteArray) : B a.data.toList = a := ByteArray.ext (by simp [B])
theorem B_inj {l m : List UInt8} (h : B l = B m) : l = m := by rw [← data_B l, h, data_B]
theorem B_eq {l m : List UInt8} : B l = B m ↔ l = m := ⟨B_inj, fun h => by rw [h]⟩
theorem eq_B {a : ByteArray} {l : List UInt8} (h : a.data.toList = l) : a = B l := by rw [← h, B_data]
@[simp] theorem append_B (l m : List UInt8) : B l ++ B m = B (l ++ m) := eq_B (by simp)
@[simp] theorem extract_B (l : List UInt8) (a b : Nat) : (B l).extract a b = B ((l.drop a).take (b - a)) := eq_B (by simp)
@[simp] theorem nil_B : (⟨#[]⟩ : ByteArray) = B [] := rfl
theorem bt_B (l : List UInt8) (n : Nat) (h : n < l.length) : bt (B l) (n : Int) = ((l.getD n 0).toNat : Int) := by
 have h2 : ((n : Int).toNat) < (B l).size := by simpa using h
 rw [bt, dif_pos h2, getD_lt 0 h]
 simp [B, ByteArray.getElem_eq_getElem_data]
def letterB (c : UInt8) : Bool := decide (97 ≤ c.toNat ∧ c.toNat ≤ 122)
end Go.Proofs.YtjpepfdpihojfaaDoor.M
namespace Go.Proofs.YtjpepfdpihojfaaDoor.M
abbrev Txt := List UInt8
theorem txt_irrefl (a : Txt) : ¬ a < a := List.lt_irrefl a
theorem txt_trans {a b c : Txt} (h : a < b) (k : b < c) : a < c := List.lt_trans h k
theorem txt_asymm {a b : Txt} (h : a < b) : ¬ b < a := fun k => txt_irrefl a (txt_trans h k)
theorem txt_tri {a b : Txt} (h : ¬ a < b) (k : ¬ b < a) : a = b := List.le_antisymm (List.not_lt.1 k) (List.not_lt.1 h)
def putL : List Txt → Txt → List Txt
 | [], w => [w]
 | x :: r, w => if x < w then x :: putL r w else if x = w then x :: r else w :: x :: r
def foundL : List Txt → Txt → Bool
 | [], _ => false
 | x :: r, w => if x < w then foundL r w else decide (x = w)
theorem putL_found : ∀ (l : List Txt) (w : Txt), foundL l w = true → putL l w = l
 | [], _, h => by simp [foundL] at h
 | x :: r, w, h => by
  by_cases h1 : x < w
  ·
   simp only [foundL, if_pos h1] at h; simp only [putL, if_pos h1, putL_found r w h]
  ·
   simp only [foundL, if_neg h1, decide_eq_true_eq] at h; simp only [putL, if_neg h1, if_pos h]
def Asc (l : List Txt) : Prop := l.Pairwise (· < ·)
theorem mem_putL : ∀ (l : List Txt) (w y : Txt), y ∈ putL l w ↔ y = w ∨ y ∈ l
 | [], w, y => by simp [putL]
 | x :: r, w, y => by
  by_cases h1 : x < w
  ·
   simp only [putL, if_pos h1, List.mem_cons, mem_putL r w y]
   constructor
   ·
    rintro (h | h | h)
    ·
     exact .inr (.inl h)
    ·
     exact .inl h
    ·
     exact .inr (.inr h)
   ·
    rintro (h | h | h)
    ·
     exact .inr (.inl h)
    ·
     exact .inl h
    ·
     exact .inr (.inr h)
  ·
   by_cases h2 : x = w
   ·
    simp only [putL, if_neg h1, if_pos h2, List.mem_cons]
    constructor
    ·
     exact fun h => .inr h
    ·
     rintro (h | h)
     ·
      exact .inl (h.trans h2.symm)
     ·
      exact h
   ·
    simp [putL, h1, h2]
theorem asc_putL : ∀ (l : List Txt) (w : Txt), Asc l → Asc (putL l w)
 | [], w, _ => by simp [putL, Asc]
 | x :: r, w, h => by
  unfold Asc at h ⊢
  rw [List.pairwise_cons] at h
  by_cases h1 : x < w
  ·
   simp only [putL, if_pos h1, List.pairwise_cons]
   refine ⟨fun y hy => ?_, asc_putL r w h.2⟩
   rcases (mem_putL r w y).1 hy with rfl | hy
   ·
    exact h1
   ·
    exact h.1 y hy
  ·
   by_cases h2 : x = w
   ·
    simp only [putL, if_neg h1, if_pos h2]; exact List.pairwise_cons.2 h
   ·
    simp only [putL, if_neg h1, if_neg h2, List.pairwise_cons]
    have hw : w < x := by
     by_cases h3 : w < x
     ·
      exact h3
     ·
      exact absurd (txt_tri h1 h3) h2
    refine ⟨fun y hy => ?_, h⟩
    rcases List.mem_cons.1 hy with rfl | hy
    ·
     exact hw
    ·
     exact txt_trans hw (h.1 y hy)
theorem asc_ext : ∀ (l m : List Txt), Asc l → Asc m → (∀ y, y ∈ l ↔ y ∈ m) → l = m
 | [], [], _, _, _ => rfl
 | [], y :: m, _, _, h => absurd ((h y).2 (by simp)) (by simp)
 | x :: l, [], _, _, h => absurd ((h x).1 (by simp)) (by simp)
 | x :: l, y :: m, hl, hm, h => by
  unfold Asc at hl hm
  rw [List.pairwise_cons] at hl hm
  have hxy : x = y := by
   rcases List.mem_cons.1 ((h x).1 (by simp)) with e | hx
   ·
    exact e
   rcases List.mem_cons.1 ((h y).2 (by simp)) with e | hy
   ·
    exact e.symm
   exact absurd (hm.1 x hx) (txt_asymm (hl.1 y hy))
  subst hxy
  rw [asc_ext l m hl.2 hm.2 ?_]
  intro z
  have := h z
  simp only [List.mem_cons] at this
  constructor
  ·
   intro hz
   rcases this.1 (.inr hz) with e | hz'
   ·
    exact absurd (hl.1 z hz) (by rw [e]; exact txt_irrefl _)
   ·
    exact hz'
  ·
   intro hz
   rcases this.2 (.inr hz) with e | hz'
   ·
    exact absurd (hm.1 z hz) (by rw [e]; exact txt_irrefl _)
   ·
    exact hz'
def setL (l : List Txt) : List Txt := l.foldl putL []
theorem foldl_putL_mem : ∀ (l acc : List Txt) (y : Txt), y ∈ l.foldl putL acc ↔ y ∈ l ∨ y ∈ acc
 | [], acc, y => by simp
 | x :: l, acc, y => by
  rw [List.foldl_cons, foldl_putL_mem l, mem_putL]
  simp only [List.mem_cons]
  constructor
  ·
   rintro (h | h | h)
   ·
    exact .inl (.inr h)
   ·
    exact .inl (.inl h)
   ·
    exact .inr h
  ·
   rintro ((h | h) | h)
   ·
    exact .inr (.inl h)
   ·
    exact .inl h
   ·
    exact .inr (.inr h)
theorem foldl_putL_asc : ∀ (l acc : List Txt), Asc acc → Asc (l.foldl putL acc)
 | [], _, h => h
 | _ :: l, acc, h => foldl_putL_asc l _ (asc_putL acc _ h)
theorem mem_setL (l : List Txt) (y : Txt) : y ∈ setL l ↔ y ∈ l := by simp [setL, foldl_putL_mem]
theorem asc_setL (l : List Txt) : Asc (setL l) := foldl_putL_asc l [] List.Pairwise.nil
theorem setL_of_asc {l : List Txt} (h : Asc l) : setL l = l := asc_ext _ _ (asc_setL l) h (mem_setL l)
theorem putL_length_le : ∀ (l : List Txt) (w : Txt), (putL l w).length ≤ l.length + 1
 | [], w => by simp [putL]
 | x :: r, w => by
  have := putL_length_le r w
  by_cases h1 : x < w
  ·
   simp only [putL, if_pos h1, List.length_cons]; omega
  ·
   by_cases h2 : x = w
   ·
    simp only [putL, if_neg h1, if_pos h2, List.length_cons]; omega
   ·
    simp only [putL, if_neg h1, if_neg h2, List.length_cons]; omega
theorem txt_lt_snoc : ∀ (p : Txt) (x : UInt8), p < p ++ [x]
 | [], x => List.nil_lt_cons x []
 | a :: p, x => List.cons_lt_cons_iff.2 (.inr ⟨rfl, txt_lt_snoc p x⟩)
theorem dropLast_getD (p : Txt) (h : p ≠ []) : p.dropLast ++ [p.getD (p.length - 1) 0] = p := by
 have h0 := List.length_pos_iff.2 h
 have h1 : p.length - 1 < p.length := by omega
 rw [List.dropLast_eq_take, getD_lt 0 h1, ← List.take_succ_eq_append_getElem h1, List.take_of_length_le (by omega)]
theorem txt_dropLast_lt (p : Txt) (h : p ≠ []) : p.dropLast < p := by
 have := txt_lt_snoc p.dropLast (p.getD (p.length - 1) 0)
 rwa [dropLast_getD p h] at this
def Clo (P : List Txt) : Prop := [] ∈ P ∧ ∀ p ∈ P, p ≠ [] → p.dropLast ∈ P
def begs (w : Txt) : List Txt := (List.range w.length).map fun n => w.take (n + 1)
def preL (ws : List Txt) : List Txt := setL ([] :: ws.flatMap begs)
theorem mem_begs {w p : Txt} : p ∈ begs w ↔ p ≠ [] ∧ p <+: w := by
 constructor
 ·
  intro h
  obtain ⟨n, hn, rfl⟩ := List.mem_map.1 h
  rw [List.mem_range] at hn
  exact ⟨fun e => by have := congrArg List.length e; rw [List.length_take, List.length_nil] at this; omega, List.take_prefix _ _⟩
 ·
  rintro ⟨h1, h2⟩
  have h3 := h2.length_le
  have h4 := List.length_pos_iff.2 h1
  refine List.mem_map.2 ⟨p.length - 1, List.mem_range.2 (by omega), ?_⟩
  rw [show p.length - 1 + 1 = p.length from by omega]
  exact (List.prefix_iff_eq_take.1 h2).symm
theorem mem_preL {ws : List Txt} {p : Txt} : p ∈ preL ws ↔ p = [] ∨ ∃ w ∈ ws, p ≠ [] ∧ p <+: w := by
 unfold preL
 rw [mem_setL, List.mem_cons, List.mem_flatMap]
 simp only [mem_begs]
theorem clo_preL (ws : List Txt) : Clo (preL ws) := by
 refine ⟨mem_preL.2 (.inl rfl), fun p hp hne => ?_⟩
 rcases mem_preL.1 hp with rfl | ⟨w, hw, _, h⟩
 ·
  exact absurd rfl hne
 ·
  by_cases h0 : p.dropLast = []
  ·
   rw [h0]; exact mem_preL.2 (.inl rfl)
  ·
   exact mem_preL.2 (.inr ⟨w, hw, h0, (List.dropLast_prefix p).trans h⟩)
theorem asc_preL (ws : List Txt) : Asc (preL ws) := asc_setL _
theorem self_preL {ws : List Txt} {w : Txt} (h : w ∈ ws) : w ∈ preL ws := by
 by_cases h0 : w = []
 ·
  rw [h0]; exact mem_preL.2 (.inl rfl)
 ·
  exact mem_preL.2 (.inr ⟨w, h, h0, List.prefix_refl _⟩)
theorem preL_congr {ws vs : List Txt} (h : ∀ w, w ∈ ws ↔ w ∈ vs) : preL ws = preL vs :=
 asc_ext _ _ (asc_preL _) (asc_preL _) fun y => by rw [mem_preL, mem_preL]; simp only [h]
theorem foldl_putL_len : ∀ (l acc : List Txt), (l.foldl putL acc).length ≤ acc.length + l.length
 | [], _ => Nat.le_refl _
 | x :: l, acc => by
  have h1 := foldl_putL_len l (putL acc x)
  have h2 := putL_length_le acc x
  rw [List.foldl_cons, List.length_cons]; omega
theorem setL_length_le (l : List Txt) : (setL l).length ≤ l.length := by have := foldl_putL_len l []; simpa [setL] using this
theorem begs_length (w : Txt) : (begs w).length = w.length := by simp [begs]
theorem flatMap_begs_length : ∀ (ws : List Txt), (∀ w ∈ ws, w.length ≤ 12) → (ws.flatMap begs).length ≤ 12 * ws.length
 | [], _ => by simp
 | w :: ws, h => by
  have h1 := flatMap_begs_length ws fun x hx => h x (List.mem_cons_of_mem _ hx)
  have h2 := h w (by simp)
  rw [List.flatMap_cons, List.length_append, begs_length, List.length_cons]; omega
theorem preL_length {ws : List Txt} (h : ∀ w ∈ ws, w.length ≤ 12) : (preL ws).length ≤ 12 * ws.length + 1 := by
 have h1 := flatMap_begs_length ws h
 have h2 := setL_length_le ([] :: ws.flatMap begs)
 unfold preL
 rw [List.length_cons] at h2
 omega
def placeL : List Txt → Txt → Nat
 | [], _ => 0
 | x :: r, p => if x = p then 0 else placeL r p + 1
theorem placeL_le : ∀ (P : List Txt) (p : Txt), placeL P p ≤ P.length
 | [], _ => Nat.le_refl _
 | x :: r, p => by
  have := placeL_le r p
  by_cases h : x = p
  ·
   simp [placeL, h]
  ·
   simp only [placeL, if_neg h, List.length_cons]; omega
theorem placeL_mem : ∀ {P : List Txt} {p : Txt}, p ∈ P → placeL P p < P.length ∧ P.getD (placeL P p) [] = p
 | [], _, h => by simp at h
 | x :: r, p, h => by
  by_cases h0 : x = p
  ·
   simp [placeL, h0]
  ·
   have h1 : p ∈ r := by
    rcases List.mem_cons.1 h with e | e
    ·
     exact absurd e.symm h0
    ·
     exact e
   obtain ⟨h2, h3⟩ := placeL_mem h1
   simp only [placeL, if_neg h0, List.length_cons]
   exact ⟨by omega, by simpa using h3⟩
theorem getD_mem {P : List Txt} {i : Nat} (h : i < P.length) : P.getD i [] ∈ P := by rw [getD_lt [] h]; exact List.getElem_mem h
theorem asc_get {P : List Txt} (hA : Asc P) {i j : Nat} (hj : j < P.length) (hij : i < j) : P.getD i [] < P.getD j [] := by
 have := List.pairwise_iff_getElem.1 hA i j (by omega) hj hij
 rwa [getD_lt [] hj, getD_lt [] (show i < P.length by omega)]
theorem asc_get_lt {P : List Txt} (hA : Asc P) {i j : Nat} (hi : i < P.length) (hj : j < P.length) (h : P.getD i [] < P.getD j []) : i < j := by
 rcases Nat.lt_trichotomy i j with h1 | h1 | h1
 ·
  exact h1
 ·
  subst h1; exact absurd h (txt_irrefl _)
 ·
  exact absurd (asc_get hA hi h1) (txt_asymm h)
theorem asc_inj {P : List Txt} (hA : Asc P) {i j : Nat} (hi : i < P.length) (hj : j < P.length) (h : P.getD i [] = P.getD j []) : i = j := by
 rcases Nat.lt_trichotomy i j with h1 | h1 | h1
 ·
  exact absurd (h ▸ asc_get hA hj h1) (txt_irrefl _)
 ·
  exact h1
 ·
  exact absurd (h ▸ asc_get hA hi h1) (txt_irrefl _)
theorem placeL_get {P : List Txt} (hA : Asc P) {i : Nat} (hi : i < P.length) : placeL P (P.getD i []) = i := by
 obtain ⟨h1, h2⟩ := placeL_mem (getD_mem hi)
 exact asc_inj hA h1 hi h2
theorem clo_zero {P : List Txt} (hA : Asc P) (hC : Clo P) : 0 < P.length ∧ P.getD 0 [] = [] := by
 obtain ⟨h1, h2⟩ := placeL_mem hC.1
 refine ⟨by omega, ?_⟩
 rcases Nat.eq_zero_or_pos (placeL P []) with h0 | h0
 ·
  rwa [h0] at h2
 ·
  have := asc_get hA h1 h0
  rw [h2] at this
  exact absurd this (List.not_lt_nil _)
theorem clo_pos {P : List Txt} (hA : Asc P) (hC : Clo P) {i : Nat} (hi : i < P.length) (h0 : 0 < i) : P.getD i [] ≠ [] := fun e => by
 obtain ⟨h1, h2⟩ := clo_zero hA hC
 have := asc_inj hA hi h1 (e.trans h2.symm)
 omega
theorem clo_parent {P : List Txt} (hA : Asc P) (hC : Clo P) {i : Nat} (hi : i < P.length) (h0 : 0 < i) :
  placeL P (P.getD i []).dropLast < i ∧ P.getD (placeL P (P.getD i []).dropLast) [] = (P.getD i []).dropLast := by
 have hne := clo_pos hA hC hi h0
 obtain ⟨h1, h2⟩ := placeL_mem (hC.2 _ (getD_mem hi) hne)
 exact ⟨asc_get_lt hA h1 hi (by rw [h2]; exact txt_dropLast_lt _ hne), h2⟩
def ltrOf (p : Txt) : Int := (((p.getD (p.length - 1) 0).toNat : Int) - 97) % 256
def ndL (P ws : List Txt) (p : Txt) : Int × Int × Bool := (if p = [] then -1 else ltrOf p, if p = [] then -1 else (placeL P p.dropLast : Int), decide (p ∈ ws))
def nodesL (P ws : List Txt) : List (Int × Int × Bool) := P.map (ndL P ws)
def wordL (w : Txt) : Bool := w.all letterB && decide (w.length ≤ 12)
structure OkW (ws : List Txt) : Prop where
 asc : Asc ws
 len : ws.length ≤ 40
 word : ∀ w ∈ ws, wordL w = true
theorem wordL_iff {w : Txt} : wordL w = true ↔ (∀ c ∈ w, letterB c = true) ∧ w.length ≤ 12 := by
 unfold wordL
 rw [Bool.and_eq_true, List.all_eq_true, decide_eq_true_eq]
theorem OkW.le {ws : List Txt} (h : OkW ws) : ∀ w ∈ ws, w.length ≤ 12 := fun w hw => (wordL_iff.1 (h.word w hw)).2
theorem OkW.pre {ws : List Txt} (h : OkW ws) : (preL ws).length ≤ 481 := by
 have h1 := preL_length h.le
 have h2 := h.len
 omega
theorem wordL_pre {p w : Txt} (h : p <+: w) (hw : wordL w = true) : wordL p = true := by
 obtain ⟨h1, h2⟩ := wordL_iff.1 hw
 exact wordL_iff.2 ⟨fun c hc => h1 c (h.subset hc), Nat.le_trans h.length_le h2⟩
theorem preL_word {ws : List Txt} (h : ∀ w ∈ ws, wordL w = true) {p : Txt} (hp : p ∈ preL ws) : wordL p = true := by
 rcases mem_preL.1 hp with rfl | ⟨w, hw, _, h1⟩
 ·
  rfl
 ·
  exact wordL_pre h1 (h w hw)
theorem letter_bd {c : UInt8} (h : letterB c = true) : 97 ≤ c.toNat ∧ c.toNat ≤ 122 := by simpa [letterB] using h
theorem getLast_mem {p : Txt} (h : p ≠ []) : p.getD (p.length - 1) 0 ∈ p := by
 have := List.length_pos_iff.2 h
 rw [getD_lt 0 (show p.length - 1 < p.length by omega)]
 exact List.getElem_mem _
theorem ltrOf_bd {p : Txt} (hw : wordL p = true) (h : p ≠ []) : ltrOf p = ((p.getD (p.length - 1) 0).toNat : Int) - 97 ∧ 0 ≤ ltrOf p ∧ ltrOf p ≤ 25 := by
 have h1 := letter_bd ((wordL_iff.1 hw).1 _ (getLast_mem h))
 unfold ltrOf
 omega
theorem filter_preL {ws : List Txt} (h : Asc ws) : (preL ws).filter (fun p => decide (p ∈ ws)) = ws := by
 refine asc_ext _ _ ((asc_preL ws).filter _) h fun y => ?_
 rw [List.mem_filter, decide_eq_true_eq]
 exact ⟨fun h => h.2, fun h => ⟨self_preL h, h⟩⟩
end Go.Proofs.YtjpepfdpihojfaaDoor.M
namespace Go.Proofs.YtjpepfdpihojfaaDoor.L
open Go.RowKit Go.Proofs.YtjpepfdpihojfaaDoor.P Go.Proofs.YtjpepfdpihojfaaDoor.M Go.Proofs.YtjpepfdpihojfaaDoorW.PrintWords Go.Proofs.YtjpepfdpihojfaaDoorW.PrintLast Go.Proofs.YtjpepfdpihojfaaDoorW.PrintMore
set_option linter.unusedVariables false
def sgn (c : UInt8) : Bool := c == 63 || c == 42 || letterB c
def pat (l : Txt) : Bool := l.all sgn && decide (l.length ≤ 14)
theorem sgn_63 (c : UInt8) (h : (c.toNat : Int) = 63) : sgn c = true := by
 have : c = 63 := UInt8.toNat_inj.1 (by show c.toNat = 63; omega)
 subst this; rfl
theorem sgn_42 (c : UInt8) (h : (c.toNat : Int) = 42) : sgn c = true := by
 have : c = 42 := UInt8.toNat_inj.1 (by show c.toNat = 42; omega)
 subst this; rfl
theorem sgn_else (c : UInt8) (h1 : ¬ (c.toNat : Int) = 63) (h2 : ¬ (c.toNat : Int) = 42) : sgn c = letterB c := by
 have a1 : (c == 63) = false := beq_eq_false_iff_ne.2 (fun e => h1 (by rw [e]; rfl))
 have a2 : (c == 42) = false := beq_eq_false_iff_ne.2 (fun e => h2 (by rw [e]; rfl))
 unfold sgn
 rw [a1, a2]; rfl
theorem l6Pattern_loop (l : Txt) (hl : l.length ≤ 4611686018427387903) : ∀ (d n : Nat), n + d = l.length → Ev (fun k => spec_l6Pattern.l0 k (B l) (n : Int)) ((l.drop n).all sgn && decide (l.length ≤ 14)) := by
 have last : ∀ n : Nat, Ev (fun k => spec_l6Pattern.j1 k (B l) (n : Int) false) (decide (l.length ≤ 14)) := by
  intro n
  refine Ev.step (fun k => spec_l6Pattern.j1.eq_2 ..) (Ev.ifF (by simp) ?_)
  have : decide (((B l).size : Int) ≤ 14) = decide (l.length ≤ 14) := by simp; omega
  rw [this]; exact Ev.now _
 intro d
 induction d with
 | zero =>
  intro n hn
  refine Ev.step (fun k => spec_l6Pattern.l0.eq_2 ..) (Ev.ifF (by simp; omega) ?_)
  rw [List.drop_of_length_le (by omega)]; simpa using last n
 | succ d ih =>
  intro n hn
  have h1 : n < l.length := by omega
  refine Ev.step (fun k => spec_l6Pattern.l0.eq_2 ..) (Ev.ifT (by simp; omega) ?_)
  rw [drop_cons_getD 0 h1]
  by_cases h14 : n ≤ 14
  ·
   rw [show decide ((n : Int) ≤ 14) = true from by simp; omega]
   refine Ev.step (fun k => spec_l6Pattern.j1.eq_2 ..) (Ev.ifT rfl (Ev.ifT (by omega) (Ev.ifT (by simp; omega) ?_)))
   simp only [bt_B l n h1]
   have tl := ih (n + 1) (by omega)
   by_cases c63 : ((l.getD n 0).toNat : Int) = 63
   ·
    refine Ev.ifT c63 ?_
    simpa only [wrap64_succ n (by omega), List.all_cons, sgn_63 _ c63, Bool.true_and] using tl
   refine Ev.ifF c63 ?_
   by_cases c42 : ((l.getD n 0).toNat : Int) = 42
   ·
    refine Ev.ifT c42 ?_
    simpa only [wrap64_succ n (by omega), List.all_cons, sgn_42 _ c42, Bool.true_and] using tl
   refine Ev.ifF c42 ?_
   by_cases ha : ((l.getD n 0).toNat : Int) < 97
   ·
    refine Ev.ifT ha ?_
    have : letterB (l.getD n 0) = false := by simp only [letterB, decide_eq_false_iff_not]; omega
    simpa only [List.all_cons, sgn_else _ c63 c42, this, Bool.false_and] using Ev.now false
   refine Ev.ifF ha ?_
   by_cases hz : ((l.getD n 0).toNat : Int) > 122
   ·
    refine Ev.ifT hz ?_
    have : letterB (l.getD n 0) = false := by simp only [letterB, decide_eq_false_iff_not]; omega
    simpa only [List.all_cons, sgn_else _ c63 c42, this, Bool.false_and] using Ev.now false
   refine Ev.ifF hz ?_
   have : letterB (l.getD n 0) = true := by simp only [letterB, decide_eq_true_eq]; omega
   simpa only [wrap64_succ n (by omega), List.all_cons, sgn_else _ c63 c42, this, Bool.true_and] using tl
  ·
   rw [show decide ((n : Int) ≤ 14) = false from by simp; omega]
   have : ((l.getD n 0 :: l.drop (n + 1)).all sgn && decide (l.length ≤ 14)) = decide (l.length ≤ 14) := by
    have : decide (l.length ≤ 14) = false := by simp; omega
    rw [this]; simp
   rw [this]; exact last n
theorem l6Pattern_ev (l : Txt) (hl : l.length ≤ 4611686018427387903) : Ev (fun k => spec_l6Pattern.f k (B l)) (pat l) := by
 simpa [spec_l6Pattern.f, pat] using l6Pattern_loop l hl l.length 0 (by omega)
theorem areLettersP_eq (l : List UInt8) (hl : l.length ≤ 9223372036854775807) : impl_areLetters.f (B l) = some (l.all letterB) := by
 unfold impl_areLetters.f
 rw [if_pos (by simpa using hl), data_B]
 rfl
theorem keep_all : ∀ l : Txt, (l.filter impl_isPattern.keep).all letterB = l.all sgn
 | [] => rfl
 | c :: l => by
  rw [List.filter_cons, List.all_cons, ← keep_all l]
  by_cases h1 : c = 63
  ·
   subst h1; rfl
  by_cases h2 : c = 42
  ·
   subst h2; rfl
  have hk : impl_isPattern.keep c = true := by
   unfold impl_isPattern.keep
   rw [Bool.and_eq_true, bne_iff_ne, bne_iff_ne]; exact ⟨h2, h1⟩
  rw [if_pos hk, List.all_cons, sgn_else c (fun e => h1 (UInt8.toNat_inj.1 (by show c.toNat = 63; omega))) (fun e => h2 (UInt8.toNat_inj.1 (by show c.toNat = 42; omega)))]
theorem isPattern_eq (l : Txt) : impl_isPattern.f (B l) = some (pat l) := by
 unfold impl_isPattern.f pat
 by_cases h : l.length ≤ 14
 ·
  rw [if_pos (by simpa using h)]
  have e : impl_isPattern.strip (B l) = B (l.filter impl_isPattern.keep) := by
   unfold impl_isPattern.strip
   rw [data_B]; rfl
  have hl := List.length_filter_le impl_isPattern.keep l
  rw [e, areLettersP_eq _ (by omega), keep_all]
  simp [h]
 ·
  rw [if_neg (by simpa using h)]; simp [h]
end Go.Proofs.YtjpepfdpihojfaaDoor.L
namespace Go.Proofs.YtjpepfdpihojfaaDoor.L
open Go.RowKit Go.Proofs.YtjpepfdpihojfaaDoor.P Go.Proofs.YtjpepfdpihojfaaDoor.M Go.Proofs.YtjpepfdpihojfaaDoorW.PrintWords Go.Proofs.YtjpepfdpihojfaaDoorW.PrintLast Go.Proofs.YtjpepfdpihojfaaDoorW.PrintMore
set_option linter.unusedVariables false
namespace Fit
def val (c : UInt8) (w : Txt) (row : List Bool) (prev : Bool) (k : Nat) : Bool :=
 if (c.toNat : Int) = 42 then row.getD k false || (decide (0 < k) && prev) else decide (0 < k) && (row.getD (k - 1) false && (decide ((c.toNat : Int) = 63) || decide ((c.toNat : Int) = ((w.getD (k - 1) 0).toNat : Int))))
def rowN (c : UInt8) (w : Txt) (row : List Bool) : Nat → List Bool
 | 0 => []
 | k + 1 => rowN c w row k ++ [val c w row ((rowN c w row k).getD (k - 1) false) k]
theorem rowN_length (c : UInt8) (w : Txt) (row : List Bool) : ∀ k, (rowN c w row k).length = k
 | 0 => rfl
 | k + 1 => by rw [rowN, List.length_append, rowN_length c w row k]; rfl
def mid (c : UInt8) (w : Txt) (row : List Bool) (m k : Nat) : List Bool := rowN c w row k ++ List.replicate (m - k) false
theorem mid_length (c : UInt8) (w : Txt) (row : List Bool) (m k : Nat) (h : k ≤ m) : (mid c w row m k).length = m := by
 unfold mid
 rw [List.length_append, rowN_length, List.length_replicate]; omega
theorem mid_set (c : UInt8) (w : Txt) (row : List Bool) (m k : Nat) (h : k < m) (v : Bool) (hv : v = val c w row ((rowN c w row k).getD (k - 1) false) k) : (mid c w row m k).set k v = mid c w row m (k + 1) := by
 unfold mid
 obtain ⟨j, hj⟩ : ∃ j, m - k = j + 1 := ⟨m - k - 1, by omega⟩
 rw [List.set_append_right _ _ (by rw [rowN_length]; exact Nat.le_refl _), rowN_length, Nat.sub_self, hj, List.replicate_succ, List.set_cons_zero, show m - (k + 1) = j from by omega, rowN, hv, List.append_assoc]
 rfl
theorem mid_keep (c : UInt8) (w : Txt) (row : List Bool) (m k : Nat) (h : k < m) (hv : val c w row ((rowN c w row k).getD (k - 1) false) k = false) : mid c w row m k = mid c w row m (k + 1) := by
 rw [← mid_set c w row m k h false hv.symm]
 unfold mid
 obtain ⟨j, hj⟩ : ∃ j, m - k = j + 1 := ⟨m - k - 1, by omega⟩
 rw [List.set_append_right _ _ (by rw [rowN_length]; exact Nat.le_refl _), rowN_length, Nat.sub_self, hj, List.replicate_succ, List.set_cons_zero]
theorem mid_prev (c : UInt8) (w : Txt) (row : List Bool) (m k : Nat) (h : k < m) (h0 : 0 < k) : rdOf false (mid c w row m k) ((k - 1 : Nat) : Int) = (rowN c w row k).getD (k - 1) false := by
 unfold rdOf mid
 rw [Int.toNat_natCast, List.getD_eq_getElem?_getD, List.getD_eq_getElem?_getD, List.getElem?_append_left (by rw [rowN_length]; omega)]
theorem mid_zero (c : UInt8) (w : Txt) (row : List Bool) (m : Nat) : mid c w row m 0 = List.replicate m false := by
 unfold mid; rw [rowN, List.nil_append, Nat.sub_zero]
theorem mid_end (c : UInt8) (w : Txt) (row : List Bool) (m : Nat) : mid c w row m m = rowN c w row m := by
 unfold mid; rw [Nat.sub_self]; simp
theorem rd_row (row : List Bool) (k : Nat) : rdOf false row (k : Int) = row.getD k false := by unfold rdOf; rw [Int.toNat_natCast]
theorem dec1 (k : Nat) (h : 0 < k) (h2 : k < 1000) : wrap64 ((k : Int) - 1) = ((k - 1 : Nat) : Int) := by rw [wrap64_id (by omega) (by omega)]; omega
theorem val_star_t {c : UInt8} {w : Txt} {row : List Bool} {prev : Bool} {k : Nat} (h : (c.toNat : Int) = 42) (hr : row.getD k false = true) : true = val c w row prev k := by
 unfold val; rw [if_pos h, hr]; rfl
theorem val_star_p {c : UInt8} {w : Txt} {row : List Bool} {prev : Bool} {k : Nat} (h : (c.toNat : Int) = 42) (hr : ¬ row.getD k false = true) (h0 : 0 < k) : prev = val c w row prev k := by
 unfold val; rw [if_pos h, Bool.eq_false_iff.2 hr, decide_eq_true h0]; simp
theorem val_star_0 {c : UInt8} {w : Txt} {row : List Bool} {prev : Bool} {k : Nat} (h : (c.toNat : Int) = 42) (hr : ¬ row.getD k false = true) (h0 : ¬ 0 < k) : false = val c w row prev k := by
 unfold val; rw [if_pos h, Bool.eq_false_iff.2 hr, decide_eq_false h0]; rfl
theorem val_zero {c : UInt8} {w : Txt} {row : List Bool} {prev : Bool} {k : Nat} (h : ¬ (c.toNat : Int) = 42) (h0 : ¬ 0 < k) : val c w row prev k = false := by
 unfold val; rw [if_neg h, decide_eq_false h0]; rfl
theorem val_q {c : UInt8} {w : Txt} {row : List Bool} {prev : Bool} {k : Nat} (h : ¬ (c.toNat : Int) = 42) (h0 : 0 < k) (hq : (c.toNat : Int) = 63) : row.getD (k - 1) false = val c w row prev k := by
 unfold val; rw [if_neg h, decide_eq_true h0, decide_eq_true hq]; simp
theorem val_c {c : UInt8} {w : Txt} {row : List Bool} {prev : Bool} {k : Nat} (h : ¬ (c.toNat : Int) = 42) (h0 : 0 < k) (hq : ¬ (c.toNat : Int) = 63) : (row.getD (k - 1) false && decide ((c.toNat : Int) = ((w.getD (k - 1) 0).toNat : Int))) = val c w row prev k := by
 unfold val; rw [if_neg h, decide_eq_true h0, decide_eq_false hq]; simp
def fitL (w : Txt) : Txt → List Bool → Bool
 | [], row => row.getD w.length false
 | c :: r, row => fitL w r (rowN c w row (w.length + 1))
theorem spec_in (p w : Txt) (hp : p.length ≤ 14) (hw : w.length ≤ 12) (n : Nat) (hn : n < p.length) (row : List Bool) (hrow : row.length = w.length + 1) (r : Bool) (hr : Ev (fun k => spec_l6Fits.l0 k (B p) (B w) (rowN (p.getD n 0) w row (w.length + 1)) ((n + 1 : Nat) : Int)) r) :
  ∀ d k, k + d = w.length + 1 → Ev (fun j => spec_l6Fits.l1 j (B p) (B w) row (n : Int) (mid (p.getD n 0) w row (w.length + 1) k) (k : Int)) r := by
 intro d
 induction d with
 | zero =>
  intro k h
  refine Ev.step (fun k => spec_l6Fits.l1.eq_2 ..) (Ev.ifF (by rw [size_B]; omega) ?_)
  rw [show k = w.length + 1 from by omega, mid_end, wrap64_succ n (by omega)]
  exact hr
 | succ d ih =>
  intro k h
  have hk : k < w.length + 1 := by omega
  have tl := ih (k + 1) (by omega)
  have hml := mid_length (p.getD n 0) w row (w.length + 1) k (by omega)
  refine Ev.step (fun k => spec_l6Fits.l1.eq_2 ..) (Ev.ifT (by rw [size_B]; omega) (Ev.ifT (by omega) (Ev.ifT (by rw [size_B]; omega) ?_)))
  have hset := mid_set (p.getD n 0) w row (w.length + 1) k hk
  have hkeep := mid_keep (p.getD n 0) w row (w.length + 1) k hk
  simp only [bt_B p n hn, Int.toNat_natCast, wrap64_succ k (by omega)]
  generalize p.getD n 0 = c at hset hkeep tl hml
  by_cases c42 : (c.toNat : Int) = 42
  ·
   refine Ev.ifT c42 (Ev.ifT (by omega) (Ev.ifT (by omega) ?_))
   rw [rd_row]
   by_cases hrk : row.getD k false = true
   ·
    refine Ev.ifT hrk (Ev.ifT (by omega) ?_)
    rw [hset true (val_star_t c42 hrk)]; exact tl
   refine Ev.ifF hrk ?_
   by_cases h0 : 0 < k
   ·
    refine Ev.ifT (by omega) ?_
    rw [dec1 k h0 (by omega), mid_prev c w row _ k hk h0]
    refine Ev.ifT (by omega) (Ev.ifT (by omega) (Ev.ifT (by omega) ?_))
    rw [hset _ (val_star_p c42 hrk h0)]; exact tl
   ·
    refine Ev.ifF (by omega) (Ev.ifT (by omega) ?_)
    rw [hset _ (val_star_0 c42 hrk h0)]; exact tl
  refine Ev.ifF c42 ?_
  by_cases h0 : 0 < k
  ·
   refine Ev.ifT (by omega) ?_
   rw [dec1 k h0 (by omega), rd_row]
   refine Ev.ifT (by omega) (Ev.ifT (by omega) ?_)
   by_cases c63 : (c.toNat : Int) = 63
   ·
    have hv := val_q (w := w) (row := row) (prev := (rowN c w row k).getD (k - 1) false) c42 h0 c63
    by_cases hrk : row.getD (k - 1) false = true
    ·
     refine Ev.ifT hrk (Ev.ifT c63 (Ev.ifT (by omega) (Ev.ifT (by omega) ?_)))
     rw [hset true (by rw [← hv, hrk])]; exact tl
    ·
     refine Ev.ifF hrk (Ev.ifT (by omega) (Ev.ifT (by omega) ?_))
     rw [hset false (by rw [← hv, Bool.eq_false_iff.2 hrk])]; exact tl
   ·
    have hv := val_c (w := w) (row := row) (prev := (rowN c w row k).getD (k - 1) false) c42 h0 c63
    by_cases hrk : row.getD (k - 1) false = true
    ·
     refine Ev.ifT hrk (Ev.ifF c63 (Ev.ifT (by rw [size_B]; omega) (Ev.ifT (by omega) (Ev.ifT (by omega) ?_))))
     rw [bt_B w (k - 1) (by omega), hset _ (by rw [← hv, hrk, Bool.true_and]; rfl)]; exact tl
    ·
     refine Ev.ifF hrk (Ev.ifT (by omega) (Ev.ifT (by omega) ?_))
     rw [hset false (by rw [← hv, Bool.eq_false_iff.2 hrk]; rfl)]; exact tl
  ·
   refine Ev.ifF (by omega) ?_
   rw [hkeep (val_zero c42 h0)]; exact tl
theorem impl_in (p w : Txt) (hp : p.length ≤ 14) (hw : w.length ≤ 12) (n : Nat) (hn : n < p.length) (row : List Bool) (hrow : row.length = w.length + 1) (r : Bool) (hr : Ev (fun k => impl_fits.l0 k (B p) (B w) (rowN (p.getD n 0) w row (w.length + 1)) (p.length : Int) ((n + 1 : Nat) : Int)) r) :
  ∀ d k, k + d = w.length + 1 → Ev (fun j => impl_fits.l1 j (B p) (B w) row (n : Int) (mid (p.getD n 0) w row (w.length + 1) k) (p.length : Int) (n : Int) ((w.length + 1 : Nat) : Int) (k : Int)) r := by
 intro d
 induction d with
 | zero =>
  intro k h
  refine Ev.step (fun k => impl_fits.l1.eq_2 ..) (Ev.ifF (by omega) ?_)
  rw [show k = w.length + 1 from by omega, mid_end, wrap64_succ n (by omega)]
  exact hr
 | succ d ih =>
  intro k h
  have hk : k < w.length + 1 := by omega
  have tl := ih (k + 1) (by omega)
  have hml := mid_length (p.getD n 0) w row (w.length + 1) k (by omega)
  refine Ev.step (fun k => impl_fits.l1.eq_2 ..) (Ev.ifT (by omega) (Ev.ifT (by omega) (Ev.ifT (by rw [size_B]; omega) ?_)))
  have hset := mid_set (p.getD n 0) w row (w.length + 1) k hk
  have hkeep := mid_keep (p.getD n 0) w row (w.length + 1) k hk
  simp only [bt_B p n hn, Int.toNat_natCast, wrap64_succ k (by omega)]
  generalize p.getD n 0 = c at hset hkeep tl hml
  by_cases c42 : (c.toNat : Int) = 42
  ·
   refine Ev.ifT c42 (Ev.ifT (by omega) (Ev.ifT (by omega) ?_))
   rw [rd_row]
   by_cases hrk : row.getD k false = true
   ·
    refine Ev.ifT hrk (Ev.ifT (by omega) ?_)
    rw [hset true (val_star_t c42 hrk)]; exact tl
   refine Ev.ifF hrk ?_
   by_cases h0 : 0 < k
   ·
    refine Ev.ifT (by omega) ?_
    rw [dec1 k h0 (by omega), mid_prev c w row _ k hk h0]
    refine Ev.ifT (by omega) (Ev.ifT (by omega) (Ev.ifT (by omega) ?_))
    rw [hset _ (val_star_p c42 hrk h0)]; exact tl
   ·
    refine Ev.ifF (by omega) (Ev.ifT (by omega) ?_)
    rw [hset _ (val_star_0 c42 hrk h0)]; exact tl
  refine Ev.ifF c42 ?_
  by_cases h0 : 0 < k
  ·
   refine Ev.ifT (by omega) ?_
   rw [dec1 k h0 (by omega), rd_row]
   by_cases c63 : (c.toNat : Int) = 63
   ·
    have hv := val_q (w := w) (row := row) (prev := (rowN c w row k).getD (k - 1) false) c42 h0 c63
    refine Ev.ifT c63 (Ev.ifT (by omega) (Ev.ifT (by omega) (Ev.ifT (by omega) (Ev.ifT (by omega) ?_))))
    rw [hset _ hv]; exact tl
   ·
    have hv := val_c (w := w) (row := row) (prev := (rowN c w row k).getD (k - 1) false) c42 h0 c63
    refine Ev.ifF c63 (Ev.ifT (by omega) (Ev.ifT (by rw [size_B]; omega) ?_))
    rw [bt_B w (k - 1) (by omega)]
    by_cases hc : (c.toNat : Int) = ((w.getD (k - 1) 0).toNat : Int)
    ·
     refine Ev.ifT hc (Ev.ifT (by omega) (Ev.ifT (by omega) (Ev.ifT (by omega) ?_)))
     rw [hset _ (by rw [← hv, decide_eq_true hc, Bool.and_true])]; exact tl
    ·
     refine Ev.ifF hc ?_
     rw [hkeep (by rw [← hv, decide_eq_false hc, Bool.and_false])]; exact tl
  ·
   refine Ev.ifF (by omega) ?_
   rw [hkeep (val_zero c42 h0)]; exact tl
theorem spec_out (p w : Txt) (hp : p.length ≤ 14) (hw : w.length ≤ 12) : ∀ d n row, n + d = p.length → row.length = w.length + 1 → Ev (fun k => spec_l6Fits.l0 k (B p) (B w) row (n : Int)) (fitL w (p.drop n) row) := by
 intro d
 induction d with
 | zero =>
  intro n row h hr
  refine Ev.step (fun k => spec_l6Fits.l0.eq_2 ..) (Ev.ifF (by rw [size_B]; omega) (Ev.ifT (by omega) (Ev.ifT (by rw [size_B]; omega) ?_)))
  rw [List.drop_of_length_le (by omega), fitL, size_B, rd_row]
  exact Ev.now _
 | succ d ih =>
  intro n row h hr
  have h1 : n < p.length := by omega
  have tl := ih (n + 1) (rowN (p.getD n 0) w row (w.length + 1)) (by omega) (rowN_length _ _ _ _)
  refine Ev.step (fun k => spec_l6Fits.l0.eq_2 ..) (Ev.ifT (by rw [size_B]; omega) ?_)
  rw [size_B, wrap64_succ _ (by omega), Int.toNat_natCast]
  refine Ev.ifT (by omega) (Ev.ifT (by omega) ?_)
  rw [drop_cons_getD 0 h1, fitL, ← mid_zero (p.getD n 0) w row]
  exact spec_in p w hp hw n h1 row hr _ tl (w.length + 1) 0 (Nat.zero_add _)
theorem impl_out (p w : Txt) (hp : p.length ≤ 14) (hw : w.length ≤ 12) : ∀ d n row, n + d = p.length → row.length = w.length + 1 → Ev (fun k => impl_fits.l0 k (B p) (B w) row (p.length : Int) (n : Int)) (fitL w (p.drop n) row) := by
 intro d
 induction d with
 | zero =>
  intro n row h hr
  refine Ev.step (fun k => impl_fits.l0.eq_2 ..) (Ev.ifF (by omega) (Ev.ifT (by omega) (Ev.ifT (by rw [size_B]; omega) ?_)))
  rw [List.drop_of_length_le (by omega), fitL, size_B, rd_row]
  exact Ev.now _
 | succ d ih =>
  intro n row h hr
  have h1 : n < p.length := by omega
  have tl := ih (n + 1) (rowN (p.getD n 0) w row (w.length + 1)) (by omega) (rowN_length _ _ _ _)
  refine Ev.step (fun k => impl_fits.l0.eq_2 ..) (Ev.ifT (by omega) ?_)
  rw [size_B, wrap64_succ _ (by omega), Int.toNat_natCast]
  refine Ev.ifT (by omega) (Ev.ifT (by omega) (Ev.some_bind ?_))
  rw [List.length_replicate, drop_cons_getD 0 h1, fitL, ← mid_zero (p.getD n 0) w row]
  exact impl_in p w hp hw n h1 row hr _ tl (w.length + 1) 0 (Nat.zero_add _)
def fit (p w : Txt) : Bool := fitL w p ((List.replicate (w.length + 1) false).set 0 true)
theorem spec_ev (p w : Txt) (hp : p.length ≤ 14) (hw : w.length ≤ 12) : Ev (fun k => spec_l6Fits.f k (B p) (B w)) (fit p w) := by
 unfold spec_l6Fits.f
 rw [size_B, wrap64_succ _ (by omega), Int.toNat_natCast]
 refine Ev.ifT (by omega) (Ev.ifT (by omega) (Ev.some_bind (Ev.ifT (by rw [List.length_replicate]; omega) ?_)))
 exact spec_out p w hp hw p.length 0 _ (Nat.zero_add _) (by rw [List.length_set, List.length_replicate])
theorem impl_ev (p w : Txt) (hp : p.length ≤ 14) (hw : w.length ≤ 12) : Ev (fun k => impl_fits.f k (B p) (B w)) (fit p w) := by
 unfold impl_fits.f
 rw [size_B, size_B, wrap64_succ _ (by omega), Int.toNat_natCast]
 refine Ev.ifT (by omega) (Ev.ifT (by omega) (Ev.some_bind (Ev.ifT (by rw [List.length_replicate]; omega) ?_)))
 exact impl_out p w hp hw p.length 0 _ (Nat.zero_add _) (by rw [List.length_set, List.length_replicate])
end Fit
end Go.Proofs.YtjpepfdpihojfaaDoor.L
namespace Go.Proofs.YtjpepfdpihojfaaDoor.L
open Go.RowKit Go.Proofs.YtjpepfdpihojfaaDoor.P Go.Proofs.YtjpepfdpihojfaaDoor.M Go.Proofs.YtjpepfdpihojfaaDoorW.PrintWords Go.Proofs.YtjpepfdpihojfaaDoorW.PrintLast Go.Proofs.YtjpepfdpihojfaaDoorW.PrintMore
set_option linter.unusedVariables false
theorem l2WordS_loop (l : Txt) (hl : l.length ≤ 4611686018427387903) : ∀ (d n : Nat), n + d = l.length → Ev (fun k => spec_l2Word.l0 k (B l) (n : Int)) ((l.drop n).all letterB && decide (l.length ≤ 12)) := by
 have last : ∀ n : Nat, Ev (fun k => spec_l2Word.j1 k (B l) (n : Int) false) (decide (l.length ≤ 12)) := by
  intro n
  refine Ev.step (fun k => spec_l2Word.j1.eq_2 ..) (Ev.ifF (by simp) ?_)
  have : decide (((B l).size : Int) ≤ 12) = decide (l.length ≤ 12) := by simp; omega
  rw [this]; exact Ev.now _
 intro d
 induction d with
 | zero =>
  intro n hn
  refine Ev.step (fun k => spec_l2Word.l0.eq_2 ..) (Ev.ifF (by simp; omega) ?_)
  rw [List.drop_of_length_le (by omega)]; simpa using last n
 | succ d ih =>
  intro n hn
  have h1 : n < l.length := by omega
  refine Ev.step (fun k => spec_l2Word.l0.eq_2 ..) (Ev.ifT (by simp; omega) ?_)
  rw [drop_cons_getD 0 h1]
  by_cases h16 : n ≤ 12
  ·
   rw [show decide ((n : Int) ≤ 12) = true from by simp; omega]
   refine Ev.step (fun k => spec_l2Word.j1.eq_2 ..) (Ev.ifT rfl (Ev.ifT (by omega) (Ev.ifT (by simp; omega) ?_)))
   simp only [bt_B l n h1]
   by_cases ha : ((l.getD n 0).toNat : Int) < 97
   ·
    refine Ev.ifT ha ?_
    have : letterB (l.getD n 0) = false := by simp only [letterB, decide_eq_false_iff_not]; omega
    simpa only [List.all_cons, this, Bool.false_and] using Ev.now false
   refine Ev.ifF ha ?_
   by_cases hz : ((l.getD n 0).toNat : Int) > 122
   ·
    refine Ev.ifT hz ?_
    have : letterB (l.getD n 0) = false := by simp only [letterB, decide_eq_false_iff_not]; omega
    simpa only [List.all_cons, this, Bool.false_and] using Ev.now false
   refine Ev.ifF hz ?_
   have : letterB (l.getD n 0) = true := by simp only [letterB, decide_eq_true_eq]; omega
   simpa only [wrap64_succ n (by omega), List.all_cons, this, Bool.true_and] using ih (n + 1) (by omega)
  ·
   rw [show decide ((n : Int) ≤ 12) = false from by simp; omega]
   have : ((l.getD n 0 :: l.drop (n + 1)).all letterB && decide (l.length ≤ 12)) = decide (l.length ≤ 12) := by
    have : decide (l.length ≤ 12) = false := by simp; omega
    rw [this]; simp
   rw [this]; exact last n
theorem l2WordS_ev (l : Txt) (hl : l.length ≤ 4611686018427387903) : Ev (fun k => spec_l2Word.f k (B l)) (wordL l) := by
 simpa [spec_l2Word.f, wordL] using l2WordS_loop l hl l.length 0 (by omega)
theorem areLettersW_eq (l : List UInt8) (hl : l.length ≤ 9223372036854775807) : impl_areLetters.f (B l) = some (l.all letterB) := by
 unfold impl_areLetters.f
 rw [if_pos (by simpa using hl), data_B]
 rfl
theorem isWord_eq (l : List UInt8) : impl_isWord.f (B l) = some (wordL l) := by
 unfold impl_isWord.f wordL
 by_cases h : l.length ≤ 12
 ·
  rw [if_pos (by simp; omega), areLettersW_eq l (by omega)]; simp [h]
 ·
  rw [if_neg (by simp; omega)]; simp [h]
end Go.Proofs.YtjpepfdpihojfaaDoor.L
namespace Go.Proofs.YtjpepfdpihojfaaDoor.Pure
open Go.RowKit Go.Proofs.YtjpepfdpihojfaaDoor.P Go.Proofs.YtjpepfdpihojfaaDoor.M Go.Proofs.YtjpepfdpihojfaaDoorW.PrintWords Go.Proofs.YtjpepfdpihojfaaDoorW.PrintLast Go.Proofs.YtjpepfdpihojfaaDoorW.PrintMore
set_option linter.unusedVariables false
open Go.Proofs.YtjpepfdpihojfaaDoor.L
theorem FnExactDoesFit : laws_FnExactDoesFit.Pure := by
 intro a b _ _
 obtain ⟨p, rfl⟩ := exB a
 obtain ⟨w, rfl⟩ := exB b
 by_cases hb : ((B p).size : Int) > 1048576
 ·
  exact ⟨0, by unfold laws_FnExactDoesFit.f; rw [if_pos hb]⟩
 by_cases hb2 : ((B w).size : Int) > 1048576
 ·
  exact ⟨0, by unfold laws_FnExactDoesFit.f; rw [if_neg hb, if_pos hb2]⟩
 have hp : p.length ≤ 1048576 := by rw [size_B] at hb; omega
 have hw : w.length ≤ 1048576 := by rw [size_B] at hb2; omega
 have both : ∃ r : Bool × Bool, Ev (fun k => spec_DoesFit.f k (B p) (B w)) r ∧ Ev (fun k => impl_DoesFit.f k (B p) (B w)) r := by
  unfold spec_DoesFit.f impl_DoesFit.f
  rw [isPattern_eq, isWord_eq]
  have e1 := l6Pattern_ev p (by omega)
  have e2 := l2WordS_ev w (by omega)
  cases h1 : pat p with
  | false => rw [h1] at e1; exact ⟨(false, false), Ev.bind e1 (Ev.ifF (by simp) (Ev.now _)), Ev.some_bind (Ev.ifF (by simp) (Ev.now _))⟩
  | true =>
   rw [h1] at e1
   cases h2 : wordL w with
   | false => rw [h2] at e2; exact ⟨(false, false), Ev.bind e1 (Ev.ifT rfl (Ev.bind e2 (Ev.ifF (by simp) (Ev.now _)))), Ev.some_bind (Ev.ifT rfl (Ev.some_bind (Ev.ifF (by simp) (Ev.now _))))⟩
   | true =>
    rw [h2] at e2
    have h14 : p.length ≤ 14 := by unfold pat at h1; simp at h1; exact h1.2
    have h12 : w.length ≤ 12 := (wordL_iff.1 h2).2
    exact ⟨(Fit.fit p w, true), Ev.bind e1 (Ev.ifT rfl (Ev.bind e2 (Ev.ifT rfl (Ev.bind (Fit.spec_ev p w h14 h12) (Ev.now _))))), Ev.some_bind (Ev.ifT rfl (Ev.some_bind (Ev.ifT rfl (Ev.bind (Fit.impl_ev p w h14 h12) (Ev.now _)))))⟩
 obtain ⟨r, h1, h2⟩ := both
 refine Ev.rounds ?_
 unfold laws_FnExactDoesFit.f
 exact Ev.ifF hb (Ev.ifF hb2 (Ev.bind h1 (Ev.bind h2 (Ev.ifF (by simp) (Ev.ifF (by simp) (Ev.now _))))))
end Go.Proofs.YtjpepfdpihojfaaDoor.Pure
namespace Go.Proofs.YtjpepfdpihojfaaDoor.fnExactDoesFit
open Go.ChangeShapes Go.WideShapes Go.ChangeAt Go.RowKit
open Go.ChangeMaps (open_string shut_string)
set_option linter.unusedVariables false
def laidL : List (String × DataW Unit) := [("unicode/utf8.acceptRanges", Rows.laid_unicode_utf8_acceptRanges), ("unicode/utf8.first", Rows.laid_unicode_utf8_first)]
theorem own : ownKnob Tryd.prog.godebug = none := by kernel_rfl
set_option maxRecDepth 100000 in
theorem lifted (os : Os) (started : os.Started) (H : Type) (enc : TypeId × Value → H) :
    ReturnsInHanded {} Tryd.checked os 4 .any (fun w args => (Rows.fnExactDoesFitSpec.pre enc Tryd.prog Tryd.f4 [] false w args ∧ laidMetH Tryd.prog laidL w) ∧ sizedMet enc Tryd.prog Tryd.f4 (OpenSpec.ofChange Rows.fnExactDoesFitSpec) false w args) (Rows.fnExactDoesFitSpec.post enc Tryd.prog Tryd.f4 false true false false) := by
  refine returnsInHanded_of_change_and (C := Tryd.checked) (X := fun w _ => laidMetH Tryd.prog laidL w) (fun _ _ _ hh h => h.of_heap hh) own started (by kernel_rfl) Tryd.func4
    (ChangeSpec.witness_shaped (enc := enc) (C := Tryd.checked) (os := os) (X := fun w _ => laidMetH Tryd.prog laidL w) false (World.laidAll Tryd.prog os laidL) #[.string ByteArray.empty, .string ByteArray.empty] 8 (World.laidAll_os _ _ _) (World.shaped_of_ZipB (by kernel_rfl) (by kernel_rfl)) (by kernel_rfl) (by kernel_rfl) (by kernel_rfl)
      (by rw [MakeChecks.laidMetH_plain _ _ _ (by kernel_rfl)]; exact laidMet_laidAll _ (by kernel_rfl) (by kernel_rfl))) ?_
  intro W base args ds gs before hval0 hW hcnd hsz0 hL_ _
  have hsz : (DataW.weightsEach Tryd.prog (Tryd.f4.params.toList ++ Rows.fnExactDoesFitSpec.plain.varTypes Tryd.prog) (ds ++ gs)).all (· ≤ reachBytes) = true := hsz0
  have hval : ∀ (j : Nat) t v, Tryd.f4.params[j]? = some t → args[j]? = some v → Value.okWide Tryd.prog W .any base t v := hval0
  have hW' := hW
  obtain ⟨p, q, hA0, hV, rfl, hfz, hnd⟩ := hW
  have hA : DataW.TrodAll enc Tryd.prog W 0 (fun _ => true) true Tryd.f4.params.toList args.toList ds p := hA0
  rw [Tryd.params4] at hA hval hsz
  obtain ⟨v0, vs0, d0, ds0, p0, q0, hargs, rfl, rfl, h0, r0⟩ := trodAll_cons hA
  obtain ⟨v1, vs1, d1, ds1, p1, q1, rfl, rfl, rfl, h1, r1⟩ := trodAll_cons r0
  obtain ⟨rfl, rfl, rfl⟩ := trodAll_nil r1
  obtain rfl : args = #[v0, v1] := by cases args; simp_all
  obtain ⟨rfl, rfl⟩ := trodVars_none hV
  obtain ⟨a0, rfl, rfl, rfl, y0⟩ := open_string Tryd.underlying9 (hval 0 9 v0 rfl rfl) h0
  have w0 : a0.size ≤ 140737488351232 := by
    have z := sized_string hsz (j := 0) (t := 9) rfl rfl
    rw [Array.length_toList] at z
    exact z
  obtain ⟨a1, rfl, rfl, rfl, y1⟩ := open_string Tryd.underlying9 (hval 1 9 v1 rfl rfl) h1
  have w1 : a1.size ≤ 140737488351232 := by
    have z := sized_string hsz (j := 1) (t := 9) rfl rfl
    rw [Array.length_toList] at z
    exact z
  clear hA0 hval0 hsz0 hsz
  refine (P.laws_FnExactDoesFit.walk Pure.FnExactDoesFit a0 a1 W w0 w1).mono fun e W' ⟨he, bel⟩ => ?_
  subst he
  exact ⟨_, rfl, _, _, _, [], _, [], hW', trodAll_mk1 (shut_bool Tryd.underlying4 _), (trodAll_cons_mk (shut_string Tryd.underlying9 y0) (trodAll_cons_mk (shut_string Tryd.underlying9 y1) trodAll_mk0)), rfl, bel.frame _, fun h => by cases h⟩
theorem over : Rows.fnExactDoesFitRow.holds Tryd.pinned (OpenSpec.ofChange Rows.fnExactDoesFitSpec) :=
  OpenClaim.holds_of_wide 4 Tryd.f4 rfl rfl rfl rfl rfl rfl rfl ⟨rfl, rfl, rfl, rfl, rfl⟩ rfl rfl rfl rfl rfl (by kernel_rfl) Tryd.func4 (by kernel_rfl)
    (of_decide_eq_true (by kernel_rfl)) (by unfold Func.isWrapper; first | (rw [if_pos (by decide +kernel)]; kernel_rfl) | (rw [if_neg (by decide +kernel)]; exact ⟨rfl, rfl⟩))
    (fun os started H enc _ => lifted os started H enc)
theorem proved : Rows.FnExactDoesFitSaid := over
end Go.Proofs.YtjpepfdpihojfaaDoor.fnExactDoesFit
namespace Go.Proofs.YtjpepfdpihojfaaDoor
theorem fnExactDoesFit_holds : Rows.FnExactDoesFitSaid := fnExactDoesFit.proved
theorem fnExactDoesFit_card : Rows.FnExactDoesFitCardSaid :=
  Claim7.holds_tied_plain_at .later [] [.data, .pinned] true (true, "497999dd9593592e935f961e182575549c7f0a2124567c0f76f3c62c40878dc6") true
    fnExactDoesFit_holds (fun _ h => by cases h) (by kernel_rfl) (fun _ h => by cases h) fnExactDoesFit_row_tie rfl ⟨rfl, rfl⟩ (by kernel_rfl) rfl
    (fun f fn hf hfn => by
      obtain rfl : f = 4 := Option.some.inj ((show Tryd.prog.funcNamed "loop.example/g01243/laws.FnExactDoesFit" = some 4 by kernel_rfl).symm.trans hf) |>.symm
      obtain rfl : fn = Tryd.f4 := (Option.some.inj (Tryd.func4.symm.trans hfn)).symm
      exact ⟨by kernel_rfl, fun j t ht => by
        rw [Tryd.params4] at ht
        have hm : t ∈ [9, 9] := by simpa using Array.mem_of_getElem? ht
        have hall : ([9, 9].all fun u => !Tryd.prog.wantsStandIn u) = true := by kernel_rfl
        exact (show Tryd.prog.wantsStandIn t = false by simpa using List.all_eq_true.1 hall t hm)⟩)
    (by kernel_rfl)
end Go.Proofs.YtjpepfdpihojfaaDoor
