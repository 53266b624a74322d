/-
  Part 1 of the proof that FnExactBranchPrefix returns true for every input: the functions that it reaches, each with its contract, and the law.
  Conditions: those of the given statement, no others.
-/
import Derived.Test.YtfhffcefpnkllaaDoorKaW0
import Derived.Test.YtfhffcefpnkllaaDoorRows
import Derived.WalkKit
import Derived.ProofKit
import Derived.OpenShut
import Derived.ShutString
import Derived.ChangeOld
import Derived.Below
import Derived.SizedLaws
import Derived.Lay
import Derived.LaidOnce
import Derived.SevenTiedAt
import Derived.Test.YtfhffcefpnkllaaDoorCards
import Derived.Test.YtfhffcefpnkllaaDoorTie
import Derived.Test.YtfhffcefpnkllaaDoorKa0
import Derived.Test.YtfhffcefpnkllaaDoorKa1
import Derived.Test.YtfhffcefpnkllaaDoorKa3
import Derived.Test.YtfhffcefpnkllaaDoorKa2
import Derived.Test.YtfhffcefpnkllaaDoorKa4
set_option linter.unusedVariables false
set_option linter.unusedSimpArgs false
set_option maxHeartbeats 8000000
set_option maxRecDepth 100000
namespace Go.Proofs.YtfhffcefpnkllaaDoor.P
open Go.RowKit Go.Proofs.YtfhffcefpnkllaaDoorW.PrintWords Go.Proofs.YtfhffcefpnkllaaDoorW.PrintLast Go.Proofs.YtfhffcefpnkllaaDoorW.PrintMore
open List renaming setIfInBounds_toArray → sA_, set_cons_zero → sB_, set_cons_succ → sC_, map_toArray → sD_, map_cons → sE_, map_nil → sF_, length_drop → sG_, length_take → sH_
open Bool renaming true → ty, false → fy
open Aside0 renaming mk → aM_
attribute [local go_sem] max2_int min2_int max_two min_two max_three min_three max_four min_four
def impl_BranchPrefix.f (k : Nat) (l0_0 : List (S56)) (a1 : Int) : Option (ByteArray × Bool) := (impl_Pressed_open.f k l0_0).bind fun bt473 => (if bt473.2 = true then ((impl_in.f a1 0 (wrap64 ((l0_0.length : Int) - 1))).bind fun t478 => (if t478 = true then ((impl_Pressed_prefixes.f k l0_0).bind fun bt479 => (if 0 ≤ a1 then (if a1 < (bt479.1.length : Int) then (some (rdOf ByteArray.empty bt479.1 a1, true)) else (none)) else (none))) else (some ((⟨#[]⟩ : ByteArray), false)))) else (some ((⟨#[]⟩ : ByteArray), false)))
theorem impl_BranchPrefix.mono : ∀ a0 a1 k, LeO (impl_BranchPrefix.f k a0 a1) (impl_BranchPrefix.f (k + 1) a0 a1) := by
 intro a0 a1 k
 unfold impl_BranchPrefix.f
 repeat' first
   | (with_reducible exact impl_Pressed_open.mono _ _)
   | (with_reducible exact impl_Pressed_prefixes.mono _ _)
   | (with_reducible exact LeO.refl _)
   | (with_reducible exact LeO.none _)
   | (with_reducible refine LeO.ite ?_ ?_)
   | (with_reducible refine LeO.bind ?_ (fun _ => ?_))
   | exact impl_Pressed_open.mono _ _
   | exact impl_Pressed_prefixes.mono _ _
   | exact LeO.none _
   | refine LeO.ite ?_ ?_
   | refine LeO.bind ?_ (fun _ => ?_)
theorem impl_BranchPrefix.calls (k : Nat) (A0_0 : Option Addr) (c0_0 : Nat) (l0_0 : List (S56)) (a1 : Int) (r1 : ByteArray) (r2 : Bool) (w : World) (hr0_0 : Kd.C k56 w A0_0 l0_0.length l0_0) (hc0_0 : l0_0.length ≤ c0_0) (h : impl_BranchPrefix.f k l0_0 a1 = some (r1, r2)) :
  Calls Tryd.prog 14 #[.agg #[.slice A0_0 l0_0.length c0_0], .int .i64 a1] w fun e w' => e = .returned (.tuple #[.string r1, .bool r2]) ∧ Below w.heap.size w w' := by
 have hu29 := Tryd.underlying29
 have hu44 := Tryd.underlying44
 have HR0_0 := aM_ hr0_0
 have HC0_0 := aM_ hc0_0
 clear hr0_0 hc0_0
 have HB := aM_ (Below.refl w.heap.size w)
 have H : ((impl_Pressed_open.f k l0_0).bind fun bt473 => (if bt473.2 = true then ((impl_in.f a1 0 (wrap64 ((l0_0.length : Int) - 1))).bind fun t478 => (if t478 = true then ((impl_Pressed_prefixes.f k l0_0).bind fun bt479 => (if 0 ≤ a1 then (if a1 < (bt479.1.length : Int) then (some (rdOf ByteArray.empty bt479.1 a1, true)) else (none)) else (none))) else (some ((⟨#[]⟩ : ByteArray), false)))) else (some ((⟨#[]⟩ : ByteArray), false)))) = some (r1, r2) := h
 clear h
 replace H := Option.bind_eq_some_iff.mp H
 obtain ⟨⟨t473, t476⟩, A30, H⟩ := H
 try dsimp only at H
 have A3 := aM_ A30
 clear A30
 by_cases c4 : t476 = true
 ·
  subst c4
  rw [if_pos rfl] at H
  replace H := Option.bind_eq_some_iff.mp H
  obtain ⟨t478, A50, H⟩ := H
  try dsimp only at H
  have A5 := aM_ A50
  clear A50
  by_cases c6 : t478 = true
  ·
   subst c6
   rw [if_pos rfl] at H
   replace H := Option.bind_eq_some_iff.mp H
   obtain ⟨⟨t479, t482⟩, A70, H⟩ := H
   try dsimp only at H
   have A7 := aM_ A70
   clear A70
   by_cases c8 : 0 ≤ a1
   rotate_left
   ·
    rw [if_neg c8] at H
    exact absurd H (by simp)
   rw [if_pos c8] at H
   have c8b0 := decide_eq_true c8
   clear c8
   by_cases c9 : a1 < (t479.length : Int)
   rotate_left
   ·
    rw [if_neg c9] at H
    exact absurd H (by simp)
   rw [if_pos c9] at H
   have c9b0 := decide_eq_true c9
   clear c9
   simp only [Option.some.injEq, Prod.mk.injEq] at H
   obtain ⟨rfl, rfl⟩ := H
   go_enter Tryd.func14, Tryd.ntmps14
   go_wp2_with (first | ((with_reducible refine gate_dst (N := 2) rfl ?_); (try (refine gate_guard (by rfl) ?_; dsimp only)); refine box_event ?hg (N := 2) ?hd (cs := #[.slice A0_0 l0_0.length c0_0]) (t := 29) ?hr ?_; (case hd => rfl); (case hg => rfl); (case hr => (go_simp; done)); intro gb472 hg w10 hbox hb; have BK472 := aM_ (hbox); have GW472 := aM_ ((by rw [hg]; exact (below_size HB.out) : w.heap.size ≤ gb472)); have GE472 := GW472; replace HB := aM_ (below_step HB.out hb); clear hb hbox hg; have hcz11_0 : w10.cell? ⟨gb472, 0, none⟩ = some (.slice A0_0 l0_0.length c0_0) := (blk_cell BK472.out 0).trans rfl; have hfz11_0 := blk_frozen BK472.out 0) | ((with_reducible refine gate_callee (f := 24) rfl ?_); refine goesL_ (some 12) rfl rfl Tryd.func24 (by kernel_rfl) rfl #[.agg #[.slice A0_0 l0_0.length c0_0]] rfl (by (try simp only [sD_, sE_, sF_]); rfl) ?_; (with_reducible refine (impl_Pressed_open.calls k _ _ l0_0 t473 true _ ?side1 ?side2 A3.out).mono ?_); (case side1 => repeat (first | exact (Kd.C_below HR0_0.out HB.out) | (with_reducible refine Kd.C_alloc ?_ _) | (with_reducible refine Kd.C_drewN ?_ _) | (with_reducible refine Kd.C_drew ?_))); (case side2 => exact HC0_0.out); rintro e w12 ⟨v474, rfl, ho0, hb⟩; refine ⟨_, rfl, ?_⟩; have HO475 := aM_ (Kd.R_lower ho0 (below_size HB.out)); replace BK472 := aM_ (blk_below BK472.out hb); replace HB := aM_ (below_step HB.out hb); (try clear hb); (try clear hb2); (try clear hk); (try clear hi); (try clear ho0)) | ((with_reducible refine gate_dst (N := 6) rfl ?_); (try (refine gate_guard (by rfl) ?_; dsimp only)); refine box_event ?hg (N := 6) ?hd (cs := #[.slice none 0 0]) (t := 44) ?hr ?_; (case hd => rfl); (case hg => rfl); (case hr => (go_simp; done)); intro gb477 hg w13 hbox hb; replace HO475 := aM_ (Kd.R_below HO475.out hb); have BK477 := aM_ (hbox); have GW477 := aM_ ((by rw [hg]; exact (below_size HB.out) : w.heap.size ≤ gb477)); have GE477 := GW477; replace HB := aM_ (below_step HB.out hb); have NB472_477 := aM_ ((by rw [hg]; exact Nat.ne_of_lt (blk_lt BK472.out) : gb472 ≠ gb477)); have NB477_472 := aM_ NB472_477.out.symm; replace BK472 := aM_ (blk_below BK472.out hb); clear hb hbox hg; obtain ⟨Ao14, co14, eo14⟩ := Kd.R_slice HO475.out; subst eo14; have hnb15 := NB477_472.out; have hnc15 := NB472_477.out; have hcz16_0 : w13.cell? ⟨gb477, 0, none⟩ = some (.slice none 0 0) := (blk_cell BK477.out 0).trans rfl; have hfz16_0 := blk_frozen BK477.out 0; have hcz17_0 : w13.cell? ⟨gb472, 0, none⟩ = some (.slice A0_0 l0_0.length c0_0) := (blk_cell BK472.out 0).trans rfl; have hfz17_0 := blk_frozen BK472.out 0) | (go_at_call 28; (with_reducible refine (impl_in.calls a1 0 (wrap64 ((l0_0.length : Int) - 1)) true _ A5.out).mono ?_); rintro e w' ⟨rfl, ⟨nd, rfl⟩⟩) | ((with_reducible refine gate_callee (f := 29) rfl ?_); refine goesL_ (some 28) rfl rfl Tryd.func29 (by kernel_rfl) rfl #[.agg #[.slice A0_0 l0_0.length c0_0]] rfl (by (try simp only [sD_, sE_, sF_]); rfl) ?_; (with_reducible refine (impl_Pressed_prefixes.calls k _ _ l0_0 t479 t482 _ ?side1 ?side2 A7.out).mono ?_); (case side1 => exact Kd.C_below HR0_0.out (by repeat (first | (with_reducible first | exact HB.out | apply below_alloc | apply pw_below_drewN | apply below_drew1 | refine below_set ?_ GE472.out | refine below_set ?_ GE477.out) | exact HB.out))); (case side2 => exact HC0_0.out); rintro e w18 ⟨v480, rfl, ho0, hb⟩; refine ⟨_, rfl, ?_⟩; replace HO475 := aM_ (Kd.R_below (by (with_reducible repeat (first | apply Kd.R_alloc | apply Kd.R_drewN | apply Kd.R_drew)); exact (Kd.R_mono (Kd.R_far (p := ⟨gb477, 0, none⟩) (Kd.R_types HO475.out BK477.out (by decide)) (fun _ hk => hk.2) (.slice Ao14 t473.length co14)) (fun _ h_ => h_.1))) hb); have HO481 := aM_ (Kd.R_lower ho0 (below_size (by repeat (first | (with_reducible first | exact HB.out | apply below_alloc | apply pw_below_drewN | apply below_drew1 | refine below_set ?_ GE472.out | refine below_set ?_ GE477.out) | exact HB.out)))); replace BK472 := aM_ (blk_below (g := gb472) (o := .cells #[.slice A0_0 l0_0.length c0_0] 29 (0, 0)) (by (with_reducible repeat (first | refine blk_drewN ?_ _ | refine blk_drew ?_ | refine blk_alloc ?_ _)); refine blk_far ?_ NB472_477.out _; exact BK472.out) hb); replace BK477 := aM_ (blk_below (g := gb477) (o := .cells #[.slice Ao14 t473.length co14] 44 (0, 0)) (by (with_reducible repeat (first | refine blk_drewN ?_ _ | refine blk_drew ?_ | refine blk_alloc ?_ _)); refine blk_put (cs := #[.slice none 0 0]) ?_ 0 _ rfl; exact BK477.out) hb); replace HB := aM_ (below_step (by repeat (first | (with_reducible first | exact HB.out | apply below_alloc | apply pw_below_drewN | apply below_drew1 | refine below_set ?_ GE472.out | refine below_set ?_ GE477.out) | exact HB.out)) hb); (try clear hb); (try clear hb2); (try clear hk); (try clear hi); (try clear ho0); obtain ⟨Ao19, co19, eo19⟩ := Kd.R_slice HO481.out; subst eo19; have p483 : 0 ≤ (a1 : Int) := of_decide_eq_true (by (with_reducible assumption)); have q483 : a1 < (t479.length : Int) := of_decide_eq_true (by (with_reducible assumption)); obtain ⟨ad483, e483, hx483_0⟩ := Kd.at_string (Kd.R_reads' HO481.out).2.2 a1 p483 q483; cases e483; replace p483 := eq_true p483; replace q483 := eq_true q483))
   go_ret2
   exact ⟨by rfl, by exact HB.out⟩
  ·
   replace c6 := Bool.eq_false_iff.mpr c6
   subst c6
   have H1 : (some ((⟨#[]⟩ : ByteArray), false)) = some (r1, r2) := by rw [if_neg (show ¬ (false = true) by decide)] at H; exact H
   clear H
   have H := H1
   clear H1
   simp only [Option.some.injEq, Prod.mk.injEq] at H
   obtain ⟨rfl, rfl⟩ := H
   go_enter Tryd.func14, Tryd.ntmps14
   go_wp2_with (first | ((with_reducible refine gate_dst (N := 2) rfl ?_); (try (refine gate_guard (by rfl) ?_; dsimp only)); refine box_event ?hg (N := 2) ?hd (cs := #[.slice A0_0 l0_0.length c0_0]) (t := 29) ?hr ?_; (case hd => rfl); (case hg => rfl); (case hr => (go_simp; done)); intro gb472 hg w20 hbox hb; have BK472 := aM_ (hbox); have GW472 := aM_ ((by rw [hg]; exact (below_size HB.out) : w.heap.size ≤ gb472)); have GE472 := GW472; replace HB := aM_ (below_step HB.out hb); clear hb hbox hg; have hcz21_0 : w20.cell? ⟨gb472, 0, none⟩ = some (.slice A0_0 l0_0.length c0_0) := (blk_cell BK472.out 0).trans rfl; have hfz21_0 := blk_frozen BK472.out 0) | ((with_reducible refine gate_callee (f := 24) rfl ?_); refine goesL_ (some 12) rfl rfl Tryd.func24 (by kernel_rfl) rfl #[.agg #[.slice A0_0 l0_0.length c0_0]] rfl (by (try simp only [sD_, sE_, sF_]); rfl) ?_; (with_reducible refine (impl_Pressed_open.calls k _ _ l0_0 t473 true _ ?side1 ?side2 A3.out).mono ?_); (case side1 => repeat (first | exact (Kd.C_below HR0_0.out HB.out) | (with_reducible refine Kd.C_alloc ?_ _) | (with_reducible refine Kd.C_drewN ?_ _) | (with_reducible refine Kd.C_drew ?_))); (case side2 => exact HC0_0.out); rintro e w22 ⟨v474, rfl, ho0, hb⟩; refine ⟨_, rfl, ?_⟩; have HO475 := aM_ (Kd.R_lower ho0 (below_size HB.out)); replace BK472 := aM_ (blk_below BK472.out hb); replace HB := aM_ (below_step HB.out hb); (try clear hb); (try clear hb2); (try clear hk); (try clear hi); (try clear ho0)) | ((with_reducible refine gate_dst (N := 6) rfl ?_); (try (refine gate_guard (by rfl) ?_; dsimp only)); refine box_event ?hg (N := 6) ?hd (cs := #[.slice none 0 0]) (t := 44) ?hr ?_; (case hd => rfl); (case hg => rfl); (case hr => (go_simp; done)); intro gb477 hg w23 hbox hb; replace HO475 := aM_ (Kd.R_below HO475.out hb); have BK477 := aM_ (hbox); have GW477 := aM_ ((by rw [hg]; exact (below_size HB.out) : w.heap.size ≤ gb477)); have GE477 := GW477; replace HB := aM_ (below_step HB.out hb); have NB472_477 := aM_ ((by rw [hg]; exact Nat.ne_of_lt (blk_lt BK472.out) : gb472 ≠ gb477)); have NB477_472 := aM_ NB472_477.out.symm; replace BK472 := aM_ (blk_below BK472.out hb); clear hb hbox hg; obtain ⟨Ao24, co24, eo24⟩ := Kd.R_slice HO475.out; subst eo24; have hnb25 := NB477_472.out; have hnc25 := NB472_477.out; have hcz26_0 : w23.cell? ⟨gb477, 0, none⟩ = some (.slice none 0 0) := (blk_cell BK477.out 0).trans rfl; have hfz26_0 := blk_frozen BK477.out 0; have hcz27_0 : w23.cell? ⟨gb472, 0, none⟩ = some (.slice A0_0 l0_0.length c0_0) := (blk_cell BK472.out 0).trans rfl; have hfz27_0 := blk_frozen BK472.out 0) | (go_at_call 28; (with_reducible refine (impl_in.calls a1 0 (wrap64 ((l0_0.length : Int) - 1)) false _ A5.out).mono ?_); rintro e w' ⟨rfl, ⟨nd, rfl⟩⟩))
   go_ret2
   exact ⟨by rfl, by repeat (first | (with_reducible first | exact HB.out | apply below_alloc | apply pw_below_drewN | apply below_drew1 | refine below_set ?_ GE472.out | refine below_set ?_ GE477.out) | exact HB.out)⟩
 ·
  replace c4 := Bool.eq_false_iff.mpr c4
  subst c4
  have H1 : (some ((⟨#[]⟩ : ByteArray), false)) = some (r1, r2) := by rw [if_neg (show ¬ (false = true) by decide)] at H; exact H
  clear H
  have H := H1
  clear H1
  simp only [Option.some.injEq, Prod.mk.injEq] at H
  obtain ⟨rfl, rfl⟩ := H
  go_enter Tryd.func14, Tryd.ntmps14
  go_wp2_with (first | ((with_reducible refine gate_dst (N := 2) rfl ?_); (try (refine gate_guard (by rfl) ?_; dsimp only)); refine box_event ?hg (N := 2) ?hd (cs := #[.slice A0_0 l0_0.length c0_0]) (t := 29) ?hr ?_; (case hd => rfl); (case hg => rfl); (case hr => (go_simp; done)); intro gb472 hg w28 hbox hb; have BK472 := aM_ (hbox); have GW472 := aM_ ((by rw [hg]; exact (below_size HB.out) : w.heap.size ≤ gb472)); have GE472 := GW472; replace HB := aM_ (below_step HB.out hb); clear hb hbox hg; have hcz29_0 : w28.cell? ⟨gb472, 0, none⟩ = some (.slice A0_0 l0_0.length c0_0) := (blk_cell BK472.out 0).trans rfl; have hfz29_0 := blk_frozen BK472.out 0) | ((with_reducible refine gate_callee (f := 24) rfl ?_); refine goesL_ (some 12) rfl rfl Tryd.func24 (by kernel_rfl) rfl #[.agg #[.slice A0_0 l0_0.length c0_0]] rfl (by (try simp only [sD_, sE_, sF_]); rfl) ?_; (with_reducible refine (impl_Pressed_open.calls k _ _ l0_0 t473 false _ ?side1 ?side2 A3.out).mono ?_); (case side1 => repeat (first | exact (Kd.C_below HR0_0.out HB.out) | (with_reducible refine Kd.C_alloc ?_ _) | (with_reducible refine Kd.C_drewN ?_ _) | (with_reducible refine Kd.C_drew ?_))); (case side2 => exact HC0_0.out); rintro e w30 ⟨v474, rfl, ho0, hb⟩; refine ⟨_, rfl, ?_⟩; have HO475 := aM_ (Kd.R_lower ho0 (below_size HB.out)); replace BK472 := aM_ (blk_below BK472.out hb); replace HB := aM_ (below_step HB.out hb); (try clear hb); (try clear hb2); (try clear hk); (try clear hi); (try clear ho0)) | ((with_reducible refine gate_dst (N := 6) rfl ?_); (try (refine gate_guard (by rfl) ?_; dsimp only)); refine box_event ?hg (N := 6) ?hd (cs := #[.slice none 0 0]) (t := 44) ?hr ?_; (case hd => rfl); (case hg => rfl); (case hr => (go_simp; done)); intro gb477 hg w31 hbox hb; replace HO475 := aM_ (Kd.R_below HO475.out hb); have BK477 := aM_ (hbox); have GW477 := aM_ ((by rw [hg]; exact (below_size HB.out) : w.heap.size ≤ gb477)); have GE477 := GW477; replace HB := aM_ (below_step HB.out hb); have NB472_477 := aM_ ((by rw [hg]; exact Nat.ne_of_lt (blk_lt BK472.out) : gb472 ≠ gb477)); have NB477_472 := aM_ NB472_477.out.symm; replace BK472 := aM_ (blk_below BK472.out hb); clear hb hbox hg; obtain ⟨Ao32, co32, eo32⟩ := Kd.R_slice HO475.out; subst eo32; have hnb33 := NB477_472.out; have hnc33 := NB472_477.out; have hcz34_0 : w31.cell? ⟨gb477, 0, none⟩ = some (.slice none 0 0) := (blk_cell BK477.out 0).trans rfl; have hfz34_0 := blk_frozen BK477.out 0))
  go_ret2
  exact ⟨by rfl, by repeat (first | (with_reducible first | exact HB.out | apply below_alloc | apply pw_below_drewN | apply below_drew1 | refine below_set ?_ GE472.out | refine below_set ?_ GE477.out) | exact HB.out)⟩
def spec_BranchPrefix.f (k : Nat) (l0_0 : List (S56)) (a1 : Int) : Option (ByteArray × Bool) := (spec_l4Open.f k l0_0).bind fun bt465 => (if bt465.2 = true then ((spec_l1In.f a1 0 (wrap64 ((l0_0.length : Int) - 1))).bind fun t470 => (if t470 = true then ((spec_l4Prefix.f k l0_0 a1).bind fun t471 => (some (t471, true))) else (some ((⟨#[]⟩ : ByteArray), false)))) else (some ((⟨#[]⟩ : ByteArray), false)))
theorem spec_BranchPrefix.mono : ∀ a0 a1 k, LeO (spec_BranchPrefix.f k a0 a1) (spec_BranchPrefix.f (k + 1) a0 a1) := by
 intro a0 a1 k
 unfold spec_BranchPrefix.f
 repeat' first
   | (with_reducible exact spec_l4Open.mono _ _)
   | (with_reducible exact spec_l4Prefix.mono _ _ _)
   | (with_reducible exact LeO.refl _)
   | (with_reducible exact LeO.none _)
   | (with_reducible refine LeO.ite ?_ ?_)
   | (with_reducible refine LeO.bind ?_ (fun _ => ?_))
   | exact spec_l4Open.mono _ _
   | exact spec_l4Prefix.mono _ _ _
   | exact LeO.none _
   | refine LeO.ite ?_ ?_
   | refine LeO.bind ?_ (fun _ => ?_)
theorem spec_BranchPrefix.calls (k : Nat) (A0_0 : Option Addr) (c0_0 : Nat) (l0_0 : List (S56)) (a1 : Int) (r1 : ByteArray) (r2 : Bool) (w : World) (hr0_0 : Kd.C k56 w A0_0 l0_0.length l0_0) (hc0_0 : l0_0.length ≤ c0_0) (h : spec_BranchPrefix.f k l0_0 a1 = some (r1, r2)) :
  Calls Tryd.prog 13 #[.agg #[.slice A0_0 l0_0.length c0_0], .int .i64 a1] w fun e w' => e = .returned (.tuple #[.string r1, .bool r2]) ∧ Below w.heap.size w w' := by
 have hu29 := Tryd.underlying29
 have hu44 := Tryd.underlying44
 have HR0_0 := aM_ hr0_0
 have HC0_0 := aM_ hc0_0
 clear hr0_0 hc0_0
 have HB := aM_ (Below.refl w.heap.size w)
 have H : ((spec_l4Open.f k l0_0).bind fun bt465 => (if bt465.2 = true then ((spec_l1In.f a1 0 (wrap64 ((l0_0.length : Int) - 1))).bind fun t470 => (if t470 = true then ((spec_l4Prefix.f k l0_0 a1).bind fun t471 => (some (t471, true))) else (some ((⟨#[]⟩ : ByteArray), false)))) else (some ((⟨#[]⟩ : ByteArray), false)))) = some (r1, r2) := h
 clear h
 replace H := Option.bind_eq_some_iff.mp H
 obtain ⟨⟨t465, t468⟩, A30, H⟩ := H
 try dsimp only at H
 have A3 := aM_ A30
 clear A30
 by_cases c4 : t468 = true
 ·
  subst c4
  rw [if_pos rfl] at H
  replace H := Option.bind_eq_some_iff.mp H
  obtain ⟨t470, A50, H⟩ := H
  try dsimp only at H
  have A5 := aM_ A50
  clear A50
  by_cases c6 : t470 = true
  ·
   subst c6
   rw [if_pos rfl] at H
   replace H := Option.bind_eq_some_iff.mp H
   obtain ⟨t471, A70, H⟩ := H
   try dsimp only at H
   have A7 := aM_ A70
   clear A70
   simp only [Option.some.injEq, Prod.mk.injEq] at H
   obtain ⟨rfl, rfl⟩ := H
   go_enter Tryd.func13, Tryd.ntmps13
   go_wp2_with (first | ((with_reducible refine gate_dst (N := 2) rfl ?_); (try (refine gate_guard (by rfl) ?_; dsimp only)); refine box_event ?hg (N := 2) ?hd (cs := #[.slice A0_0 l0_0.length c0_0]) (t := 29) ?hr ?_; (case hd => rfl); (case hg => rfl); (case hr => (go_simp; done)); intro gb464 hg w8 hbox hb; have BK464 := aM_ (hbox); have GW464 := aM_ ((by rw [hg]; exact (below_size HB.out) : w.heap.size ≤ gb464)); have GE464 := GW464; replace HB := aM_ (below_step HB.out hb); clear hb hbox hg; have hcz9_0 : w8.cell? ⟨gb464, 0, none⟩ = some (.slice A0_0 l0_0.length c0_0) := (blk_cell BK464.out 0).trans rfl; have hfz9_0 := blk_frozen BK464.out 0) | ((with_reducible refine gate_callee (f := 22) rfl ?_); refine goesL_ (some 10) rfl rfl Tryd.func22 (by kernel_rfl) rfl #[.agg #[.slice A0_0 l0_0.length c0_0]] rfl (by (try simp only [sD_, sE_, sF_]); rfl) ?_; (with_reducible refine (spec_l4Open.calls k _ _ l0_0 t465 true _ ?side1 ?side2 A3.out).mono ?_); (case side1 => repeat (first | exact (Kd.C_below HR0_0.out HB.out) | (with_reducible refine Kd.C_alloc ?_ _) | (with_reducible refine Kd.C_drewN ?_ _) | (with_reducible refine Kd.C_drew ?_))); (case side2 => exact HC0_0.out); rintro e w10 ⟨v466, rfl, ho0, hb⟩; refine ⟨_, rfl, ?_⟩; have HO467 := aM_ (Kd.R_lower ho0 (below_size HB.out)); replace BK464 := aM_ (blk_below BK464.out hb); replace HB := aM_ (below_step HB.out hb); (try clear hb); (try clear hb2); (try clear hk); (try clear hi); (try clear ho0)) | ((with_reducible refine gate_dst (N := 6) rfl ?_); (try (refine gate_guard (by rfl) ?_; dsimp only)); refine box_event ?hg (N := 6) ?hd (cs := #[.slice none 0 0]) (t := 44) ?hr ?_; (case hd => rfl); (case hg => rfl); (case hr => (go_simp; done)); intro gb469 hg w11 hbox hb; replace HO467 := aM_ (Kd.R_below HO467.out hb); have BK469 := aM_ (hbox); have GW469 := aM_ ((by rw [hg]; exact (below_size HB.out) : w.heap.size ≤ gb469)); have GE469 := GW469; replace HB := aM_ (below_step HB.out hb); have NB464_469 := aM_ ((by rw [hg]; exact Nat.ne_of_lt (blk_lt BK464.out) : gb464 ≠ gb469)); have NB469_464 := aM_ NB464_469.out.symm; replace BK464 := aM_ (blk_below BK464.out hb); clear hb hbox hg; obtain ⟨Ao12, co12, eo12⟩ := Kd.R_slice HO467.out; subst eo12; have hnb13 := NB469_464.out; have hnc13 := NB464_469.out; have hcz14_0 : w11.cell? ⟨gb469, 0, none⟩ = some (.slice none 0 0) := (blk_cell BK469.out 0).trans rfl; have hfz14_0 := blk_frozen BK469.out 0; have hcz15_0 : w11.cell? ⟨gb464, 0, none⟩ = some (.slice A0_0 l0_0.length c0_0) := (blk_cell BK464.out 0).trans rfl; have hfz15_0 := blk_frozen BK464.out 0) | (go_at_call 26; (with_reducible refine (spec_l1In.calls a1 0 (wrap64 ((l0_0.length : Int) - 1)) true _ A5.out).mono ?_); rintro e w' ⟨rfl, ⟨nd, rfl⟩⟩) | ((with_reducible refine gate_callee (f := 27) rfl ?_); refine goesL_ (some 26) rfl rfl Tryd.func27 (by kernel_rfl) rfl #[.agg #[.slice A0_0 l0_0.length c0_0], .int .i64 a1] rfl (by (try simp only [sD_, sE_, sF_]); rfl) ?_; (with_reducible refine (spec_l4Prefix.calls k _ _ l0_0 a1 t471 _ ?side1 ?side2 A7.out).mono ?_); (case side1 => exact Kd.C_below HR0_0.out (by repeat (first | (with_reducible first | exact HB.out | apply below_alloc | apply pw_below_drewN | apply below_drew1 | refine below_set ?_ GE464.out | refine below_set ?_ GE469.out) | exact HB.out))); (case side2 => exact HC0_0.out); rintro e w16 ⟨rfl, hb⟩; refine ⟨_, rfl, ?_⟩; replace HO467 := aM_ (Kd.R_below (by (with_reducible repeat (first | apply Kd.R_alloc | apply Kd.R_drewN | apply Kd.R_drew)); exact (Kd.R_mono (Kd.R_far (p := ⟨gb469, 0, none⟩) (Kd.R_types HO467.out BK469.out (by decide)) (fun _ hk => hk.2) (.slice Ao12 t465.length co12)) (fun _ h_ => h_.1))) hb); replace BK464 := aM_ (blk_below (g := gb464) (o := .cells #[.slice A0_0 l0_0.length c0_0] 29 (0, 0)) (by (with_reducible repeat (first | refine blk_drewN ?_ _ | refine blk_drew ?_ | refine blk_alloc ?_ _)); refine blk_far ?_ NB464_469.out _; exact BK464.out) hb); replace BK469 := aM_ (blk_below (g := gb469) (o := .cells #[.slice Ao12 t465.length co12] 44 (0, 0)) (by (with_reducible repeat (first | refine blk_drewN ?_ _ | refine blk_drew ?_ | refine blk_alloc ?_ _)); refine blk_put (cs := #[.slice none 0 0]) ?_ 0 _ rfl; exact BK469.out) hb); replace HB := aM_ (below_step (by repeat (first | (with_reducible first | exact HB.out | apply below_alloc | apply pw_below_drewN | apply below_drew1 | refine below_set ?_ GE464.out | refine below_set ?_ GE469.out) | exact HB.out)) hb); (try clear hb); (try clear hb2); (try clear hk); (try clear hi)))
   go_ret2
   exact ⟨by rfl, by exact HB.out⟩
  ·
   replace c6 := Bool.eq_false_iff.mpr c6
   subst c6
   have H1 : (some ((⟨#[]⟩ : ByteArray), false)) = some (r1, r2) := by rw [if_neg (show ¬ (false = true) by decide)] at H; exact H
   clear H
   have H := H1
   clear H1
   simp only [Option.some.injEq, Prod.mk.injEq] at H
   obtain ⟨rfl, rfl⟩ := H
   go_enter Tryd.func13, Tryd.ntmps13
   go_wp2_with (first | ((with_reducible refine gate_dst (N := 2) rfl ?_); (try (refine gate_guard (by rfl) ?_; dsimp only)); refine box_event ?hg (N := 2) ?hd (cs := #[.slice A0_0 l0_0.length c0_0]) (t := 29) ?hr ?_; (case hd => rfl); (case hg => rfl); (case hr => (go_simp; done)); intro gb464 hg w17 hbox hb; have BK464 := aM_ (hbox); have GW464 := aM_ ((by rw [hg]; exact (below_size HB.out) : w.heap.size ≤ gb464)); have GE464 := GW464; replace HB := aM_ (below_step HB.out hb); clear hb hbox hg; have hcz18_0 : w17.cell? ⟨gb464, 0, none⟩ = some (.slice A0_0 l0_0.length c0_0) := (blk_cell BK464.out 0).trans rfl; have hfz18_0 := blk_frozen BK464.out 0) | ((with_reducible refine gate_callee (f := 22) rfl ?_); refine goesL_ (some 10) rfl rfl Tryd.func22 (by kernel_rfl) rfl #[.agg #[.slice A0_0 l0_0.length c0_0]] rfl (by (try simp only [sD_, sE_, sF_]); rfl) ?_; (with_reducible refine (spec_l4Open.calls k _ _ l0_0 t465 true _ ?side1 ?side2 A3.out).mono ?_); (case side1 => repeat (first | exact (Kd.C_below HR0_0.out HB.out) | (with_reducible refine Kd.C_alloc ?_ _) | (with_reducible refine Kd.C_drewN ?_ _) | (with_reducible refine Kd.C_drew ?_))); (case side2 => exact HC0_0.out); rintro e w19 ⟨v466, rfl, ho0, hb⟩; refine ⟨_, rfl, ?_⟩; have HO467 := aM_ (Kd.R_lower ho0 (below_size HB.out)); replace BK464 := aM_ (blk_below BK464.out hb); replace HB := aM_ (below_step HB.out hb); (try clear hb); (try clear hb2); (try clear hk); (try clear hi); (try clear ho0)) | ((with_reducible refine gate_dst (N := 6) rfl ?_); (try (refine gate_guard (by rfl) ?_; dsimp only)); refine box_event ?hg (N := 6) ?hd (cs := #[.slice none 0 0]) (t := 44) ?hr ?_; (case hd => rfl); (case hg => rfl); (case hr => (go_simp; done)); intro gb469 hg w20 hbox hb; replace HO467 := aM_ (Kd.R_below HO467.out hb); have BK469 := aM_ (hbox); have GW469 := aM_ ((by rw [hg]; exact (below_size HB.out) : w.heap.size ≤ gb469)); have GE469 := GW469; replace HB := aM_ (below_step HB.out hb); have NB464_469 := aM_ ((by rw [hg]; exact Nat.ne_of_lt (blk_lt BK464.out) : gb464 ≠ gb469)); have NB469_464 := aM_ NB464_469.out.symm; replace BK464 := aM_ (blk_below BK464.out hb); clear hb hbox hg; obtain ⟨Ao21, co21, eo21⟩ := Kd.R_slice HO467.out; subst eo21; have hnb22 := NB469_464.out; have hnc22 := NB464_469.out; have hcz23_0 : w20.cell? ⟨gb469, 0, none⟩ = some (.slice none 0 0) := (blk_cell BK469.out 0).trans rfl; have hfz23_0 := blk_frozen BK469.out 0; have hcz24_0 : w20.cell? ⟨gb464, 0, none⟩ = some (.slice A0_0 l0_0.length c0_0) := (blk_cell BK464.out 0).trans rfl; have hfz24_0 := blk_frozen BK464.out 0) | (go_at_call 26; (with_reducible refine (spec_l1In.calls a1 0 (wrap64 ((l0_0.length : Int) - 1)) false _ A5.out).mono ?_); rintro e w' ⟨rfl, ⟨nd, rfl⟩⟩))
   go_ret2
   exact ⟨by rfl, by repeat (first | (with_reducible first | exact HB.out | apply below_alloc | apply pw_below_drewN | apply below_drew1 | refine below_set ?_ GE464.out | refine below_set ?_ GE469.out) | exact HB.out)⟩
 ·
  replace c4 := Bool.eq_false_iff.mpr c4
  subst c4
  have H1 : (some ((⟨#[]⟩ : ByteArray), false)) = some (r1, r2) := by rw [if_neg (show ¬ (false = true) by decide)] at H; exact H
  clear H
  have H := H1
  clear H1
  simp only [Option.some.injEq, Prod.mk.injEq] at H
  obtain ⟨rfl, rfl⟩ := H
  go_enter Tryd.func13, Tryd.ntmps13
  go_wp2_with (first | ((with_reducible refine gate_dst (N := 2) rfl ?_); (try (refine gate_guard (by rfl) ?_; dsimp only)); refine box_event ?hg (N := 2) ?hd (cs := #[.slice A0_0 l0_0.length c0_0]) (t := 29) ?hr ?_; (case hd => rfl); (case hg => rfl); (case hr => (go_simp; done)); intro gb464 hg w25 hbox hb; have BK464 := aM_ (hbox); have GW464 := aM_ ((by rw [hg]; exact (below_size HB.out) : w.heap.size ≤ gb464)); have GE464 := GW464; replace HB := aM_ (below_step HB.out hb); clear hb hbox hg; have hcz26_0 : w25.cell? ⟨gb464, 0, none⟩ = some (.slice A0_0 l0_0.length c0_0) := (blk_cell BK464.out 0).trans rfl; have hfz26_0 := blk_frozen BK464.out 0) | ((with_reducible refine gate_callee (f := 22) rfl ?_); refine goesL_ (some 10) rfl rfl Tryd.func22 (by kernel_rfl) rfl #[.agg #[.slice A0_0 l0_0.length c0_0]] rfl (by (try simp only [sD_, sE_, sF_]); rfl) ?_; (with_reducible refine (spec_l4Open.calls k _ _ l0_0 t465 false _ ?side1 ?side2 A3.out).mono ?_); (case side1 => repeat (first | exact (Kd.C_below HR0_0.out HB.out) | (with_reducible refine Kd.C_alloc ?_ _) | (with_reducible refine Kd.C_drewN ?_ _) | (with_reducible refine Kd.C_drew ?_))); (case side2 => exact HC0_0.out); rintro e w27 ⟨v466, rfl, ho0, hb⟩; refine ⟨_, rfl, ?_⟩; have HO467 := aM_ (Kd.R_lower ho0 (below_size HB.out)); replace BK464 := aM_ (blk_below BK464.out hb); replace HB := aM_ (below_step HB.out hb); (try clear hb); (try clear hb2); (try clear hk); (try clear hi); (try clear ho0)) | ((with_reducible refine gate_dst (N := 6) rfl ?_); (try (refine gate_guard (by rfl) ?_; dsimp only)); refine box_event ?hg (N := 6) ?hd (cs := #[.slice none 0 0]) (t := 44) ?hr ?_; (case hd => rfl); (case hg => rfl); (case hr => (go_simp; done)); intro gb469 hg w28 hbox hb; replace HO467 := aM_ (Kd.R_below HO467.out hb); have BK469 := aM_ (hbox); have GW469 := aM_ ((by rw [hg]; exact (below_size HB.out) : w.heap.size ≤ gb469)); have GE469 := GW469; replace HB := aM_ (below_step HB.out hb); have NB464_469 := aM_ ((by rw [hg]; exact Nat.ne_of_lt (blk_lt BK464.out) : gb464 ≠ gb469)); have NB469_464 := aM_ NB464_469.out.symm; replace BK464 := aM_ (blk_below BK464.out hb); clear hb hbox hg; obtain ⟨Ao29, co29, eo29⟩ := Kd.R_slice HO467.out; subst eo29; have hnb30 := NB469_464.out; have hnc30 := NB464_469.out; have hcz31_0 : w28.cell? ⟨gb469, 0, none⟩ = some (.slice none 0 0) := (blk_cell BK469.out 0).trans rfl; have hfz31_0 := blk_frozen BK469.out 0))
  go_ret2
  exact ⟨by rfl, by repeat (first | (with_reducible first | exact HB.out | apply below_alloc | apply pw_below_drewN | apply below_drew1 | refine below_set ?_ GE464.out | refine below_set ?_ GE469.out) | exact HB.out)⟩
def laws_FnExactBranchPrefix.j0 : Nat → Bool → List (S61) → List (S56) → Option (Bool)
 | 0, _, _, _ => none
 | k + 1, x38, x485000, x495000 => if x38 = true then (some false) else ((laws_toPressed.f k x485000).bind fun t497 => ((laws_eqPressed.f k x495000 t497).bind fun t500 => (if t500 = true then (some true) else (some false))))
def laws_FnExactBranchPrefix.f (k : Nat) (l0_0 : List (S61)) (a1 : Int) : Option (Bool) := (laws_szPressed.f k l0_0 1048576).bind fun t485 => (if t485 < 0 then (some true) else ((laws_toPressed.f k l0_0).bind fun t486 => ((spec_BranchPrefix.f k t486 a1).bind fun bt489 => ((laws_toPressed.f k l0_0).bind fun t491 => ((impl_BranchPrefix.f k t491 a1).bind fun bt495 => (if bt495.1.toList = bt489.1.toList then (laws_FnExactBranchPrefix.j0 k (bt495.2 != bt489.2) l0_0 t491) else (laws_FnExactBranchPrefix.j0 k true l0_0 t491)))))))
theorem laws_FnExactBranchPrefix.mono_l : ∀ k, (∀ y0 y1 y2, LeO (laws_FnExactBranchPrefix.j0 k y0 y1 y2) (laws_FnExactBranchPrefix.j0 (k + 1) y0 y1 y2))
 | 0 => fun _ _ _ r h => by simp [laws_FnExactBranchPrefix.j0] at h
 | k + 1 => by
  have ih0 := laws_FnExactBranchPrefix.mono_l k
  ·
   intro y0 y1 y2
   unfold laws_FnExactBranchPrefix.j0
   repeat' first
   | (with_reducible exact ih0 _ _ _)
   | (with_reducible exact impl_BranchPrefix.mono _ _ _)
   | (with_reducible exact laws_eqPressed.mono _ _ _)
   | (with_reducible exact laws_szPressed.mono _ _ _)
   | (with_reducible exact laws_toPressed.mono _ _)
   | (with_reducible exact spec_BranchPrefix.mono _ _ _)
   | (with_reducible exact LeO.refl _)
   | (with_reducible exact LeO.none _)
   | (with_reducible refine LeO.ite ?_ ?_)
   | (with_reducible refine LeO.bind ?_ (fun _ => ?_))
   | exact ih0 _ _ _
   | exact impl_BranchPrefix.mono _ _ _
   | exact laws_eqPressed.mono _ _ _
   | exact laws_szPressed.mono _ _ _
   | exact laws_toPressed.mono _ _
   | exact spec_BranchPrefix.mono _ _ _
   | exact LeO.none _
   | refine LeO.ite ?_ ?_
   | refine LeO.bind ?_ (fun _ => ?_)
theorem laws_FnExactBranchPrefix.mono : ∀ a0 a1 k, LeO (laws_FnExactBranchPrefix.f k a0 a1) (laws_FnExactBranchPrefix.f (k + 1) a0 a1) := by
 intro a0 a1 k
 have ih0 := laws_FnExactBranchPrefix.mono_l k
 unfold laws_FnExactBranchPrefix.f
 repeat' first
   | (with_reducible exact ih0 _ _ _)
   | (with_reducible exact impl_BranchPrefix.mono _ _ _)
   | (with_reducible exact laws_eqPressed.mono _ _ _)
   | (with_reducible exact laws_szPressed.mono _ _ _)
   | (with_reducible exact laws_toPressed.mono _ _)
   | (with_reducible exact spec_BranchPrefix.mono _ _ _)
   | (with_reducible exact LeO.refl _)
   | (with_reducible exact LeO.none _)
   | (with_reducible refine LeO.ite ?_ ?_)
   | (with_reducible refine LeO.bind ?_ (fun _ => ?_))
   | exact ih0 _ _ _
   | exact impl_BranchPrefix.mono _ _ _
   | exact laws_eqPressed.mono _ _ _
   | exact laws_szPressed.mono _ _ _
   | exact laws_toPressed.mono _ _
   | exact spec_BranchPrefix.mono _ _ _
   | exact LeO.none _
   | refine LeO.ite ?_ ?_
   | refine LeO.bind ?_ (fun _ => ?_)
theorem laws_FnExactBranchPrefix.calls (k : Nat) (A0_0 : Option Addr) (c0_0 : Nat) (l0_0 : List (S61)) (a1 : Int) (r : Bool) (w : World) (hr0_0 : Kd.C k61 w A0_0 l0_0.length l0_0) (hc0_0 : l0_0.length ≤ c0_0) (h : laws_FnExactBranchPrefix.f k l0_0 a1 = some r) :
  Calls Tryd.prog 4 #[.agg #[.slice A0_0 l0_0.length c0_0], .int .i64 a1] w fun e w' => e = .returned (.bool r) ∧ Below w.heap.size w w' := by
 have hu24 := Tryd.underlying24
 have hu29 := Tryd.underlying29
 have HR0_0 := aM_ hr0_0
 have HC0_0 := aM_ hc0_0
 clear hr0_0 hc0_0
 have HB := aM_ (Below.refl w.heap.size w)
 have H : ((laws_szPressed.f k l0_0 1048576).bind fun t485 => (if t485 < 0 then (some true) else ((laws_toPressed.f k l0_0).bind fun t486 => ((spec_BranchPrefix.f k t486 a1).bind fun bt489 => ((laws_toPressed.f k l0_0).bind fun t491 => ((impl_BranchPrefix.f k t491 a1).bind fun bt495 => (if bt495.1.toList = bt489.1.toList then (laws_FnExactBranchPrefix.j0 k (bt495.2 != bt489.2) l0_0 t491) else (laws_FnExactBranchPrefix.j0 k true l0_0 t491)))))))) = some r := h
 clear h
 replace H := Option.bind_eq_some_iff.mp H
 obtain ⟨t485, A30, H⟩ := H
 try dsimp only at H
 have A3 := aM_ A30
 clear A30
 by_cases c4 : t485 < 0
 ·
  rw [if_pos c4] at H
  have c4b0 := decide_eq_true c4
  clear c4
  obtain rfl := Option.some.inj H
  go_enter Tryd.func4, Tryd.ntmps4
  go_wp2_with (first | ((with_reducible refine gate_dst (N := 2) rfl ?_); refine box_event ?hg (N := 2) ?hd (cs := #[.slice A0_0 l0_0.length c0_0]) (t := 24) ?hr ?_; (case hd => rfl); (case hg => rfl); (case hr => (go_simp; done)); intro gb484 hg w5 hbox hb; have BK484 := aM_ (hbox); have GW484 := aM_ ((by rw [hg]; exact (below_size HB.out) : w.heap.size ≤ gb484)); have GE484 := GW484; replace HB := aM_ (below_step HB.out hb); clear hb hbox hg; have hcz6_0 : w5.cell? ⟨gb484, 0, none⟩ = some (.slice A0_0 l0_0.length c0_0) := (blk_cell BK484.out 0).trans rfl; have hfz6_0 := blk_frozen BK484.out 0) | ((with_reducible refine gate_callee (f := 8) rfl ?_); refine goesL_ (some 13) rfl rfl Tryd.func8 (by kernel_rfl) rfl #[.agg #[.slice A0_0 l0_0.length c0_0], .int .i64 1048576] rfl (by (try simp only [sD_, sE_, sF_]); rfl) ?_; (with_reducible refine (laws_szPressed.calls k _ _ l0_0 1048576 t485 _ ?side1 ?side2 A3.out).mono ?_); (case side1 => repeat (first | exact (Kd.C_below HR0_0.out HB.out) | (with_reducible refine Kd.C_alloc ?_ _) | (with_reducible refine Kd.C_drewN ?_ _) | (with_reducible refine Kd.C_drew ?_))); (case side2 => exact HC0_0.out); rintro e w7 ⟨rfl, hb⟩; refine ⟨_, rfl, ?_⟩; replace BK484 := aM_ (blk_below BK484.out hb); replace HB := aM_ (below_step HB.out hb); (try clear hb); (try clear hb2); (try clear hk); (try clear hi)))
  go_ret
  exact ⟨by rfl, by exact HB.out⟩
 ·
  rw [if_neg c4] at H
  have c4b0 := decide_eq_false c4
  clear c4
  replace H := Option.bind_eq_some_iff.mp H
  obtain ⟨t486, A80, H⟩ := H
  try dsimp only at H
  have A8 := aM_ A80
  clear A80
  replace H := Option.bind_eq_some_iff.mp H
  obtain ⟨⟨t489, t490⟩, A90, H⟩ := H
  try dsimp only at H
  have A9 := aM_ A90
  clear A90
  replace H := Option.bind_eq_some_iff.mp H
  obtain ⟨t491, A100, H⟩ := H
  try dsimp only at H
  have A10 := aM_ A100
  clear A100
  replace H := Option.bind_eq_some_iff.mp H
  obtain ⟨⟨t495, t496⟩, A110, H⟩ := H
  try dsimp only at H
  have A11 := aM_ A110
  clear A110
  have HC12 := aM_ H
  clear H
  go_enter Tryd.func4, Tryd.ntmps4
  go_upto_region 8 with (first | ((with_reducible refine gate_dst (N := 2) rfl ?_); refine box_event ?hg (N := 2) ?hd (cs := #[.slice A0_0 l0_0.length c0_0]) (t := 24) ?hr ?_; (case hd => rfl); (case hg => rfl); (case hr => (go_simp; done)); intro gb484 hg w13 hbox hb; have BK484 := aM_ (hbox); have GW484 := aM_ ((by rw [hg]; exact (below_size HB.out) : w.heap.size ≤ gb484)); have GE484 := GW484; replace HB := aM_ (below_step HB.out hb); clear hb hbox hg; have hcz14_0 : w13.cell? ⟨gb484, 0, none⟩ = some (.slice A0_0 l0_0.length c0_0) := (blk_cell BK484.out 0).trans rfl; have hfz14_0 := blk_frozen BK484.out 0) | ((with_reducible refine gate_callee (f := 8) rfl ?_); refine goesL_ (some 13) rfl rfl Tryd.func8 (by kernel_rfl) rfl #[.agg #[.slice A0_0 l0_0.length c0_0], .int .i64 1048576] rfl (by (try simp only [sD_, sE_, sF_]); rfl) ?_; (with_reducible refine (laws_szPressed.calls k _ _ l0_0 1048576 t485 _ ?side1 ?side2 A3.out).mono ?_); (case side1 => repeat (first | exact (Kd.C_below HR0_0.out HB.out) | (with_reducible refine Kd.C_alloc ?_ _) | (with_reducible refine Kd.C_drewN ?_ _) | (with_reducible refine Kd.C_drew ?_))); (case side2 => exact HC0_0.out); rintro e w15 ⟨rfl, hb⟩; refine ⟨_, rfl, ?_⟩; replace BK484 := aM_ (blk_below BK484.out hb); replace HB := aM_ (below_step HB.out hb); (try clear hb); (try clear hb2); (try clear hk); (try clear hi); have hcz16_0 : w15.cell? ⟨gb484, 0, none⟩ = some (.slice A0_0 l0_0.length c0_0) := (blk_cell BK484.out 0).trans rfl; have hfz16_0 := blk_frozen BK484.out 0) | ((with_reducible refine gate_callee (f := 10) rfl ?_); refine goesL_ (some 18) rfl rfl Tryd.func10 (by kernel_rfl) rfl #[.agg #[.slice A0_0 l0_0.length c0_0]] rfl (by (try simp only [sD_, sE_, sF_]); rfl) ?_; (with_reducible refine (laws_toPressed.calls k _ _ l0_0 t486 _ ?side1 ?side2 A8.out).mono ?_); (case side1 => repeat (first | exact (Kd.C_below HR0_0.out HB.out) | (with_reducible refine Kd.C_alloc ?_ _) | (with_reducible refine Kd.C_drewN ?_ _) | (with_reducible refine Kd.C_drew ?_))); (case side2 => exact HC0_0.out); rintro e w17 ⟨v487, rfl, ho0, hb⟩; refine ⟨_, rfl, ?_⟩; have HO488 := aM_ (Kd.R_lower ho0 (below_size HB.out)); replace BK484 := aM_ (blk_below BK484.out hb); replace HB := aM_ (below_step HB.out hb); (try clear hb); (try clear hb2); (try clear hk); (try clear hi); (try clear ho0); obtain ⟨Ao18, co18, eo18⟩ := Kd.R_slice HO488.out; subst eo18) | ((with_reducible refine gate_callee (f := 13) rfl ?_); refine goesL_ (some 20) rfl rfl Tryd.func13 (by kernel_rfl) rfl #[.agg #[.slice Ao18 t486.length co18], .int .i64 a1] rfl (by (try simp only [sD_, sE_, sF_]); rfl) ?_; (with_reducible refine (spec_BranchPrefix.calls k _ _ t486 a1 t489 t490 _ ?side1 ?side2 A9.out).mono ?_); (case side1 => repeat (first | exact (Kd.R_reads' HO488.out).2.2 | (with_reducible refine Kd.C_alloc ?_ _) | (with_reducible refine Kd.C_drewN ?_ _) | (with_reducible refine Kd.C_drew ?_))); (case side2 => exact (Kd.R_reads' HO488.out).2.1); rintro e w19 ⟨rfl, hb⟩; refine ⟨_, rfl, ?_⟩; replace HO488 := aM_ (Kd.R_below HO488.out hb); replace BK484 := aM_ (blk_below BK484.out hb); replace HB := aM_ (below_step HB.out hb); (try clear hb); (try clear hb2); (try clear hk); (try clear hi); have hcz20_0 : w19.cell? ⟨gb484, 0, none⟩ = some (.slice A0_0 l0_0.length c0_0) := (blk_cell BK484.out 0).trans rfl; have hfz20_0 := blk_frozen BK484.out 0) | ((with_reducible refine gate_callee (f := 10) rfl ?_); refine goesL_ (some 24) rfl rfl Tryd.func10 (by kernel_rfl) rfl #[.agg #[.slice A0_0 l0_0.length c0_0]] rfl (by (try simp only [sD_, sE_, sF_]); rfl) ?_; (with_reducible refine (laws_toPressed.calls k _ _ l0_0 t491 _ ?side1 ?side2 A10.out).mono ?_); (case side1 => repeat (first | exact (Kd.C_below HR0_0.out HB.out) | (with_reducible refine Kd.C_alloc ?_ _) | (with_reducible refine Kd.C_drewN ?_ _) | (with_reducible refine Kd.C_drew ?_))); (case side2 => exact HC0_0.out); rintro e w21 ⟨v492, rfl, ho0, hb⟩; refine ⟨_, rfl, ?_⟩; have HO493 := aM_ (Kd.R_lower (Kd.R_new' ho0 (Kd.R_lt HO488.out)) (below_size HB.out)); replace HO488 := aM_ (Kd.R_elder' HO488.out (Kd.R_base ho0) hb); replace BK484 := aM_ (blk_below BK484.out hb); replace HB := aM_ (below_step HB.out hb); (try clear hb); (try clear hb2); (try clear hk); (try clear hi); (try clear ho0)) | ((with_reducible refine gate_dst (N := 8) rfl ?_); refine box_event ?hg (N := 8) ?hd (cs := #[.slice none 0 0]) (t := 29) ?hr ?_; (case hd => rfl); (case hg => rfl); (case hr => (go_simp; done)); intro gb494 hg w22 hbox hb; replace HO488 := aM_ (Kd.R_below HO488.out hb); replace HO493 := aM_ (Kd.R_below HO493.out hb); have BK494 := aM_ (hbox); have GW494 := aM_ ((by rw [hg]; exact (below_size HB.out) : w.heap.size ≤ gb494)); have GE494 := GW494; replace HB := aM_ (below_step HB.out hb); have NB484_494 := aM_ ((by rw [hg]; exact Nat.ne_of_lt (blk_lt BK484.out) : gb484 ≠ gb494)); have NB494_484 := aM_ NB484_494.out.symm; replace BK484 := aM_ (blk_below BK484.out hb); clear hb hbox hg; obtain ⟨Ao23, co23, eo23⟩ := Kd.R_slice HO493.out; subst eo23; have hnb24 := NB494_484.out; have hnc24 := NB484_494.out; have hcz25_0 : w22.cell? ⟨gb494, 0, none⟩ = some (.slice none 0 0) := (blk_cell BK494.out 0).trans rfl; have hfz25_0 := blk_frozen BK494.out 0) | ((with_reducible refine gate_callee (f := 14) rfl ?_); refine goesL_ (some 28) rfl rfl Tryd.func14 (by kernel_rfl) rfl #[.agg #[.slice Ao23 t491.length co23], .int .i64 a1] rfl (by (try simp only [sD_, sE_, sF_]); rfl) ?_; (with_reducible refine (impl_BranchPrefix.calls k _ _ t491 a1 t495 t496 _ ?side1 ?side2 A11.out).mono ?_); (case side1 => refine (Kd.R_reads' (e := 56) (base := w.heap.size) (ok := fun k_ => (True ∧ some k_ ≠ (.slice Ao18 t486.length co18 : Value).ownBlock)) (n := t491.length) (c := co23) ?_).2.2; exact (by exact (Kd.R_mono (Kd.R_far (p := ⟨gb494, 0, none⟩) (Kd.R_types HO493.out BK494.out (by decide)) (fun _ hk => hk.2) (.slice Ao23 t491.length co23)) (fun _ h_ => h_.1)))); (case side2 => exact (Kd.R_reads' HO493.out).2.1); rintro e w26 ⟨rfl, hb⟩; refine ⟨_, rfl, ?_⟩; replace HO488 := aM_ (Kd.R_below (by exact (Kd.R_mono (Kd.R_far (p := ⟨gb494, 0, none⟩) (Kd.R_types HO488.out BK494.out (by decide)) (fun _ hk => hk.2) (.slice Ao23 t491.length co23)) (fun _ h_ => h_.1))) hb); replace HO493 := aM_ (Kd.R_below (by exact (Kd.R_mono (Kd.R_far (p := ⟨gb494, 0, none⟩) (Kd.R_types HO493.out BK494.out (by decide)) (fun _ hk => hk.2) (.slice Ao23 t491.length co23)) (fun _ h_ => h_.1))) hb); replace BK484 := aM_ (blk_below (g := gb484) (o := .cells #[.slice A0_0 l0_0.length c0_0] 24 (0, 0)) (by refine blk_far ?_ NB484_494.out _; exact BK484.out) hb); replace BK494 := aM_ (blk_below (g := gb494) (o := .cells #[.slice Ao23 t491.length co23] 29 (0, 0)) (by refine blk_put (cs := #[.slice none 0 0]) ?_ 0 _ rfl; exact BK494.out) hb); replace HB := aM_ (below_step (by repeat (first | (with_reducible first | exact HB.out | apply below_alloc | apply pw_below_drewN | apply below_drew1 | refine below_set ?_ GE484.out | refine below_set ?_ GE494.out) | exact HB.out)) hb); (try clear hb); (try clear hb2); (try clear hk); (try clear hi)))
  (try simp only [Act.put, sA_, sB_, sC_])
  go_cut [38] (fun v38 wc => ∃ (kq : Nat) (x38_11 : Bool), v38 = .bool x38_11 ∧ Aside0 (laws_FnExactBranchPrefix.j0 kq x38_11 l0_0 t491 = some r) ∧ Aside0 (kq ≤ k) ∧ Aside0 (Kd.R k56 56 wc w.heap.size (fun _ => True) (.slice Ao23 t491.length co23) t491) ∧ Aside0 (wc.heap[gb484]? = some (.cells #[(.slice A0_0 l0_0.length c0_0)] 24 (0, 0))) ∧ Aside0 (wc.heap[gb494]? = some (.cells #[(.slice Ao23 t491.length co23)] 29 (0, 0))) ∧ Aside0 (Below w.heap.size w wc))
  case first =>
   have H := HC12.out
   clear HC12
   by_cases c27 : t495.toList = t489.toList
   ·
    rw [if_pos c27] at H
    have c27b0 : (t495.toList == t489.toList) = true := beq_iff_eq.mpr c27
    have c27b1 : (t495.toList != t489.toList) = false := bne_eq_false_iff_eq.mpr c27
    clear c27
    (skip)
    have H' := aM_ H
    clear H
    go_wp2
    go_meet
    case rel => exact ⟨_, ((t496 != t490)), (by rfl), H', ⟨by omega⟩, ⟨by exact Kd.R_mono HO493.out (fun _ hk => trivial)⟩, ⟨BK484.out⟩, ⟨BK494.out⟩, ⟨HB.out⟩⟩
   ·
    rw [if_neg c27] at H
    have c27b0 : (t495.toList == t489.toList) = false := beq_eq_false_iff_ne.mpr c27
    have c27b1 : (t495.toList != t489.toList) = true := bne_iff_ne.mpr c27
    (skip)
    have H' := aM_ H
    clear H
    go_wp2
    go_meet
    case rel => exact ⟨_, (true), (by rfl), H', ⟨by omega⟩, ⟨by exact Kd.R_mono HO493.out (fun _ hk => trivial)⟩, ⟨BK484.out⟩, ⟨BK494.out⟩, ⟨HB.out⟩⟩
  case rest =>
   clear HC12
   try clear c1
   try clear c2
   try clear p2
   try clear c4
   try clear c4b0
   try clear c8
   try clear c10
   try clear c13
   try clear c14
   try clear c24
   try clear c27
   try clear c27b0
   try clear c27b1
   try clear hcz14_0
   try clear hcz16_0
   try clear hcz20_0
   try clear hcz25_0
   try clear hcz6_0
   try clear hfz14_0
   try clear hfz16_0
   try clear hfz20_0
   try clear hfz25_0
   try clear hfz6_0
   obtain ⟨kq, x38_11, rfl, HA, HJ11, HO_495000, BK484, BK494, HB⟩ := hcut
   cases kq with
   | zero => exact absurd HA.out (by simp [laws_FnExactBranchPrefix.j0])
   | succ kj11 =>
    have H := HA.out
    clear HA
    simp only [laws_FnExactBranchPrefix.j0] at H
    by_cases c28 : x38_11 = true
    ·
     subst c28
     rw [if_pos rfl] at H
     obtain rfl := Option.some.inj H
     go_wp2
     go_ret
     exact ⟨by rfl, by exact HB.out⟩
    ·
     replace c28 := Bool.eq_false_iff.mpr c28
     subst c28
     have H1 : ((laws_toPressed.f kj11 l0_0).bind fun t497 => ((laws_eqPressed.f kj11 t491 t497).bind fun t500 => (if t500 = true then (some true) else (some false)))) = some r := by rw [if_neg (show ¬ (false = true) by decide)] at H; exact H
     clear H
     have H := H1
     clear H1
     replace H := Option.bind_eq_some_iff.mp H
     obtain ⟨t497, A290, H⟩ := H
     try dsimp only at H
     have A29 := aM_ A290
     clear A290
     replace H := Option.bind_eq_some_iff.mp H
     obtain ⟨t500, A300, H⟩ := H
     try dsimp only at H
     have A30 := aM_ A300
     clear A300
     by_cases c31 : t500 = true
     ·
      subst c31
      rw [if_pos rfl] at H
      obtain rfl := Option.some.inj H
      try go_wp2
      have n0_ := aM_ (Kd.R_drew HO_495000.out)
      have n1_ := aM_ (blk_drew BK484.out)
      have n2_ := aM_ (blk_drew BK494.out)
      have n3_ := aM_ (below_drew1 HB.out)
      clear HO_495000
      clear BK484
      clear BK494
      clear HB
      have HO_495000 := n0_
      have BK484 := n1_
      have BK494 := n2_
      have HB := n3_
      clear n0_ n1_ n2_ n3_
      refine start_ (n := 5) (S := fun w' => w'.cell? ⟨gb494, 0, none⟩ = some (.slice Ao23 t491.length co23) ∧ w'.cell? ⟨gb484, 0, none⟩ = some (.slice A0_0 l0_0.length c0_0)) (ds := []) #[fy, fy, fy, fy, fy] (by kernel_rfl) rfl rfl ⟨(blk_cell BK494.out 0).trans rfl, (blk_cell BK484.out 0).trans rfl⟩ (fun hHeld => ?_)
      generalize wc.drew = w32 at HO_495000 BK484 BK494 HB hHeld ⊢
      refine take_ (i := 0) (N := some 39) (v := ?_) (a' := ?_) #[ty, fy, fy, fy, fy] rfl rfl (by kernel_rfl) (fun _ _ _ h => h) (Or.inl ⟨by rfl, ?_⟩) hHeld ?_ ?_; rotate_left; (rintro w' ⟨s0, s1⟩; go_simp; with_reducible rfl); rotate_left; (simp only [Act.put, sA_, sB_, sC_, i64_w, i32_w]; rfl)
      refine take_ (i := 1) (N := some 40) (v := ?_) (a' := ?_) #[ty, ty, fy, fy, fy] rfl rfl (by kernel_rfl) (fun _ _ _ h => h) (Or.inl ⟨by rfl, ?_⟩) hHeld ?_ ?_; rotate_left; (rintro w' ⟨s0, s1⟩; go_simp; with_reducible rfl); rotate_left; (simp only [Act.put, sA_, sB_, sC_, i64_w, i32_w]; rfl)
      refine one_ (i := 2) (N := some 41) #[ty, ty, ty, fy, fy] rfl rfl (by kernel_rfl) (by decide) (fun K hK => ?_)
      refine goes_ Tryd.func10 (by kernel_rfl) rfl #[.agg #[.slice A0_0 l0_0.length c0_0]] (by rfl) rfl rfl (by (try simp only [sD_, sE_, sF_]); rfl) ?_
      with_reducible refine (laws_toPressed.calls kj11 _ _ l0_0 t497 _ ?side1 ?side2 A29.out).mono ?_
      (case side1 => repeat (first | exact (Kd.C_below HR0_0.out HB.out) | (with_reducible refine Kd.C_alloc ?_ _) | (with_reducible refine Kd.C_drewN ?_ _) | (with_reducible refine Kd.C_drew ?_)))
      (case side2 => exact HC0_0.out)
      rintro e w33 ⟨v498, rfl, ho0, hb⟩
      refine ⟨_, rfl, ?_⟩
      have n0_ := aM_ (Kd.R_elder' HO_495000.out (Kd.R_base ho0) hb)
      have n1_ := aM_ (Kd.R_lower (Kd.R_new' ho0 (Kd.R_lt HO_495000.out)) (below_size HB.out))
      have n2_ := aM_ (blk_below BK484.out hb)
      have n3_ := aM_ (blk_below BK494.out hb)
      have n4_ := aM_ (below_step HB.out hb)
      clear HO_495000
      clear BK484
      clear BK494
      clear HB
      have HO_495000 := n0_
      have HO499 := n1_
      have BK484 := n2_
      have BK494 := n3_
      have HB := n4_
      clear n0_ n1_ n2_ n3_ n4_
      (try clear hb)
      (try clear hb2)
      (try clear hk)
      (try clear hi)
      (try clear ho0)
      obtain ⟨Ao34, co34, eo34⟩ := Kd.R_slice HO499.out
      (subst eo34)
      refine hK.out _ _ ⟨(blk_cell BK494.out 0).trans rfl, (blk_cell BK484.out 0).trans rfl⟩ (fun hHeld => ?_)
      clear hK K
      refine norm_ (a' := ?_) ?_ ?_; rotate_left; (show Act.put _ (some 41) _ = _; simp only [Act.put, sA_, sB_, sC_, i64_w, i32_w]; rfl)
      refine one_ (i := 3) (N := some 42) #[ty, ty, ty, ty, fy] rfl rfl (by kernel_rfl) (by decide) (fun K hK => ?_)
      refine goes_ Tryd.func12 (by kernel_rfl) rfl #[.agg #[.slice Ao23 t491.length co23], .agg #[.slice Ao34 t497.length co34]] (by rfl) rfl rfl (by (try simp only [sD_, sE_, sF_]); rfl) ?_
      with_reducible refine (laws_eqPressed.calls kj11 _ _ t491 _ _ t497 true _ ?side1 ?side2 ?side3 ?side4 A30.out).mono ?_
      (case side1 => repeat (first | exact (Kd.R_reads' HO_495000.out).2.2 | (with_reducible refine Kd.C_alloc ?_ _) | (with_reducible refine Kd.C_drewN ?_ _) | (with_reducible refine Kd.C_drew ?_)))
      (case side2 => exact (Kd.R_reads' HO_495000.out).2.1)
      (case side3 => repeat (first | exact (Kd.R_reads' HO499.out).2.2 | (with_reducible refine Kd.C_alloc ?_ _) | (with_reducible refine Kd.C_drewN ?_ _) | (with_reducible refine Kd.C_drew ?_)))
      (case side4 => exact (Kd.R_reads' HO499.out).2.1)
      rintro e w35 ⟨rfl, hb⟩
      refine ⟨_, rfl, ?_⟩
      have n0_ := aM_ (Kd.R_below HO_495000.out hb)
      have n1_ := aM_ (Kd.R_below HO499.out hb)
      have n2_ := aM_ (blk_below BK484.out hb)
      have n3_ := aM_ (blk_below BK494.out hb)
      have n4_ := aM_ (below_step HB.out hb)
      clear HO_495000
      clear HO499
      clear BK484
      clear BK494
      clear HB
      have HO_495000 := n0_
      have HO499 := n1_
      have BK484 := n2_
      have BK494 := n3_
      have HB := n4_
      clear n0_ n1_ n2_ n3_ n4_
      (try clear hb)
      (try clear hb2)
      (try clear hk)
      (try clear hi)
      refine hK.out _ _ ⟨(blk_cell BK494.out 0).trans rfl, (blk_cell BK484.out 0).trans rfl⟩ (fun hHeld => ?_)
      clear hK K
      refine norm_ (a' := ?_) ?_ ?_; rotate_left; (show Act.put _ (some 42) _ = _; simp only [Act.put, sA_, sB_, sC_, i64_w, i32_w]; rfl)
      refine pure_ (i := 4) (N := some 43) (v := ?_) (a' := ?_) #[ty, ty, ty, ty, ty] rfl rfl (by kernel_rfl) (fun _ _ _ h => h) (Or.inl ⟨by rfl, ?_⟩) ?_ ?_; rotate_left; (intro w'; go_simp; with_reducible rfl); rotate_left; (simp only [Act.put, sA_, sB_, sC_, i64_w, i32_w]; rfl)
      refine done_ (by kernel_rfl) ?_
      try go_wp2
      go_ret
      exact ⟨by rfl, by exact HB.out⟩
     ·
      replace c31 := Bool.eq_false_iff.mpr c31
      subst c31
      have H1 : (some false) = some r := by rw [if_neg (show ¬ (false = true) by decide)] at H; exact H
      clear H
      have H := H1
      clear H1
      obtain rfl := Option.some.inj H
      try go_wp2
      have n0_ := aM_ (Kd.R_drew HO_495000.out)
      have n1_ := aM_ (blk_drew BK484.out)
      have n2_ := aM_ (blk_drew BK494.out)
      have n3_ := aM_ (below_drew1 HB.out)
      clear HO_495000
      clear BK484
      clear BK494
      clear HB
      have HO_495000 := n0_
      have BK484 := n1_
      have BK494 := n2_
      have HB := n3_
      clear n0_ n1_ n2_ n3_
      refine start_ (n := 5) (S := fun w' => w'.cell? ⟨gb494, 0, none⟩ = some (.slice Ao23 t491.length co23) ∧ w'.cell? ⟨gb484, 0, none⟩ = some (.slice A0_0 l0_0.length c0_0)) (ds := []) #[fy, fy, fy, fy, fy] (by kernel_rfl) rfl rfl ⟨(blk_cell BK494.out 0).trans rfl, (blk_cell BK484.out 0).trans rfl⟩ (fun hHeld => ?_)
      generalize wc.drew = w36 at HO_495000 BK484 BK494 HB hHeld ⊢
      refine take_ (i := 0) (N := some 39) (v := ?_) (a' := ?_) #[ty, fy, fy, fy, fy] rfl rfl (by kernel_rfl) (fun _ _ _ h => h) (Or.inl ⟨by rfl, ?_⟩) hHeld ?_ ?_; rotate_left; (rintro w' ⟨s0, s1⟩; go_simp; with_reducible rfl); rotate_left; (simp only [Act.put, sA_, sB_, sC_, i64_w, i32_w]; rfl)
      refine take_ (i := 1) (N := some 40) (v := ?_) (a' := ?_) #[ty, ty, fy, fy, fy] rfl rfl (by kernel_rfl) (fun _ _ _ h => h) (Or.inl ⟨by rfl, ?_⟩) hHeld ?_ ?_; rotate_left; (rintro w' ⟨s0, s1⟩; go_simp; with_reducible rfl); rotate_left; (simp only [Act.put, sA_, sB_, sC_, i64_w, i32_w]; rfl)
      refine one_ (i := 2) (N := some 41) #[ty, ty, ty, fy, fy] rfl rfl (by kernel_rfl) (by decide) (fun K hK => ?_)
      refine goes_ Tryd.func10 (by kernel_rfl) rfl #[.agg #[.slice A0_0 l0_0.length c0_0]] (by rfl) rfl rfl (by (try simp only [sD_, sE_, sF_]); rfl) ?_
      with_reducible refine (laws_toPressed.calls kj11 _ _ l0_0 t497 _ ?side1 ?side2 A29.out).mono ?_
      (case side1 => repeat (first | exact (Kd.C_below HR0_0.out HB.out) | (with_reducible refine Kd.C_alloc ?_ _) | (with_reducible refine Kd.C_drewN ?_ _) | (with_reducible refine Kd.C_drew ?_)))
      (case side2 => exact HC0_0.out)
      rintro e w37 ⟨v498, rfl, ho0, hb⟩
      refine ⟨_, rfl, ?_⟩
      have n0_ := aM_ (Kd.R_elder' HO_495000.out (Kd.R_base ho0) hb)
      have n1_ := aM_ (Kd.R_lower (Kd.R_new' ho0 (Kd.R_lt HO_495000.out)) (below_size HB.out))
      have n2_ := aM_ (blk_below BK484.out hb)
      have n3_ := aM_ (blk_below BK494.out hb)
      have n4_ := aM_ (below_step HB.out hb)
      clear HO_495000
      clear BK484
      clear BK494
      clear HB
      have HO_495000 := n0_
      have HO499 := n1_
      have BK484 := n2_
      have BK494 := n3_
      have HB := n4_
      clear n0_ n1_ n2_ n3_ n4_
      (try clear hb)
      (try clear hb2)
      (try clear hk)
      (try clear hi)
      (try clear ho0)
      obtain ⟨Ao38, co38, eo38⟩ := Kd.R_slice HO499.out
      (subst eo38)
      refine hK.out _ _ ⟨(blk_cell BK494.out 0).trans rfl, (blk_cell BK484.out 0).trans rfl⟩ (fun hHeld => ?_)
      clear hK K
      refine norm_ (a' := ?_) ?_ ?_; rotate_left; (show Act.put _ (some 41) _ = _; simp only [Act.put, sA_, sB_, sC_, i64_w, i32_w]; rfl)
      refine one_ (i := 3) (N := some 42) #[ty, ty, ty, ty, fy] rfl rfl (by kernel_rfl) (by decide) (fun K hK => ?_)
      refine goes_ Tryd.func12 (by kernel_rfl) rfl #[.agg #[.slice Ao23 t491.length co23], .agg #[.slice Ao38 t497.length co38]] (by rfl) rfl rfl (by (try simp only [sD_, sE_, sF_]); rfl) ?_
      with_reducible refine (laws_eqPressed.calls kj11 _ _ t491 _ _ t497 false _ ?side1 ?side2 ?side3 ?side4 A30.out).mono ?_
      (case side1 => repeat (first | exact (Kd.R_reads' HO_495000.out).2.2 | (with_reducible refine Kd.C_alloc ?_ _) | (with_reducible refine Kd.C_drewN ?_ _) | (with_reducible refine Kd.C_drew ?_)))
      (case side2 => exact (Kd.R_reads' HO_495000.out).2.1)
      (case side3 => repeat (first | exact (Kd.R_reads' HO499.out).2.2 | (with_reducible refine Kd.C_alloc ?_ _) | (with_reducible refine Kd.C_drewN ?_ _) | (with_reducible refine Kd.C_drew ?_)))
      (case side4 => exact (Kd.R_reads' HO499.out).2.1)
      rintro e w39 ⟨rfl, hb⟩
      refine ⟨_, rfl, ?_⟩
      have n0_ := aM_ (Kd.R_below HO_495000.out hb)
      have n1_ := aM_ (Kd.R_below HO499.out hb)
      have n2_ := aM_ (blk_below BK484.out hb)
      have n3_ := aM_ (blk_below BK494.out hb)
      have n4_ := aM_ (below_step HB.out hb)
      clear HO_495000
      clear HO499
      clear BK484
      clear BK494
      clear HB
      have HO_495000 := n0_
      have HO499 := n1_
      have BK484 := n2_
      have BK494 := n3_
      have HB := n4_
      clear n0_ n1_ n2_ n3_ n4_
      (try clear hb)
      (try clear hb2)
      (try clear hk)
      (try clear hi)
      refine hK.out _ _ ⟨(blk_cell BK494.out 0).trans rfl, (blk_cell BK484.out 0).trans rfl⟩ (fun hHeld => ?_)
      clear hK K
      refine norm_ (a' := ?_) ?_ ?_; rotate_left; (show Act.put _ (some 42) _ = _; simp only [Act.put, sA_, sB_, sC_, i64_w, i32_w]; rfl)
      refine pure_ (i := 4) (N := some 43) (v := ?_) (a' := ?_) #[ty, ty, ty, ty, ty] rfl rfl (by kernel_rfl) (fun _ _ _ h => h) (Or.inl ⟨by rfl, ?_⟩) ?_ ?_; rotate_left; (intro w'; go_simp; with_reducible rfl); rotate_left; (simp only [Act.put, sA_, sB_, sC_, i64_w, i32_w]; rfl)
      refine done_ (by kernel_rfl) ?_
      try go_wp2
      go_ret
      exact ⟨by rfl, by exact HB.out⟩
def laws_FnExactBranchPrefix.Pure : Prop := ∀ (l0_0 : List S61) (a1 : Int), l0_0.length ≤ 9223372036854775807 → (∀ x ∈ l0_0, x.f0.size ≤ 9223372036854775807) → (Lit.int .i64 a1).wf = true → ∃ k, laws_FnExactBranchPrefix.f k l0_0 a1 = some true
theorem laws_FnExactBranchPrefix.walk (P : laws_FnExactBranchPrefix.Pure) (w : World) (A0 : Option Addr) (c0 : Nat) (l0_0 : List S61) (hr0 : Kd.C k61 w A0 l0_0.length l0_0) (hc0 : l0_0.length ≤ c0) (hs0 : ∀ x ∈ l0_0, x.f0.size ≤ 9223372036854775807) (a1 : Int) (w1 : (Lit.int .i64 a1).wf = true) :
  Calls Tryd.prog 4 #[.agg #[.slice A0 l0_0.length c0], .int .i64 a1] w fun e w' => e = .returned (.bool true) ∧ Below w.heap.size w w' := by
 obtain ⟨k, h⟩ := P l0_0 a1 hr0.2.1 hs0 w1
 refine (laws_FnExactBranchPrefix.calls k _ _ l0_0 a1 true w hr0 hc0 h).mono ?_
 rintro e w' ⟨rfl, hd⟩
 exact ⟨rfl, hd⟩
end Go.Proofs.YtfhffcefpnkllaaDoor.P
namespace Go.Proofs.YtfhffcefpnkllaaDoor.Pure
open Go.RowKit Go.Proofs.YtfhffcefpnkllaaDoor.P Go.Proofs.YtfhffcefpnkllaaDoor.M Go.Proofs.YtfhffcefpnkllaaDoorW.PrintWords Go.Proofs.YtfhffcefpnkllaaDoorW.PrintLast Go.Proofs.YtfhffcefpnkllaaDoorW.PrintMore
open Go.Proofs.YtfhffcefpnkllaaDoor.L
namespace BranchPrefix
theorem both (N : List Bd) (hb : ∀ b ∈ N, b.f0.size ≤ 1000000000) (a : Int) : ∃ r : ByteArray × Bool, Ev (fun k => spec_BranchPrefix.f k N a) r ∧ Ev (fun k => impl_BranchPrefix.f k N a) r := by
 unfold spec_BranchPrefix.f impl_BranchPrefix.f
 rcases open_both N hb with ⟨ws, h, rfl, hl, e1, e2⟩ | ⟨e1, e2⟩
 ·
  have hQ := (stayQ_zero ws (asc_preL ws) (clo_preL ws)).1
  have hw : wrap64 (((brs (preL ws) ws).length : Int) - 1) = ((stayQ (preL ws) ws).length : Int) - 1 := by rw [brs_length, wrap64_id (by omega) (by omega)]
  have hp := bprefixes_ev (brs (preL ws) ws)
  rw [bpN_tr h hl] at hp
  by_cases hr : 0 ≤ a ∧ a ≤ ((stayQ (preL ws) ws).length : Int) - 1
  ·
   obtain ⟨i, rfl⟩ : ∃ i : Nat, a = (i : Int) := ⟨a.toNat, by omega⟩
   have hi : i < (stayQ (preL ws) ws).length := by omega
   refine ⟨(B ((stayQ (preL ws) ws).getD i []), true), Ev.bind e1 (Ev.ifT rfl ?_), Ev.bind e2 (Ev.ifT rfl ?_)⟩
   ·
    rw [hw, l1In_eq, decide_eq_true hr]
    exact Ev.some_bind (Ev.ifT rfl (Ev.bind (l4Prefix_ev h hi) (Ev.now _)))
   ·
    rw [hw, in_eq, decide_eq_true hr]
    refine Ev.some_bind (Ev.ifT rfl (Ev.bind hp (Ev.ifT (by omega) (Ev.ifT (by show (i : Int) < (((stayQ (preL ws) ws).map B).length : Int); rw [List.length_map]; omega) ?_))))
    show Ev (fun _ => some (rdOf ByteArray.empty ((stayQ (preL ws) ws).map B) (i : Int), true)) _
    rw [rdB _ i hi]
    exact Ev.now _
  ·
   refine ⟨(⟨#[]⟩, false), Ev.bind e1 (Ev.ifT rfl ?_), Ev.bind e2 (Ev.ifT rfl ?_)⟩
   ·
    rw [hw, l1In_eq, decide_eq_false hr]
    exact Ev.some_bind (Ev.ifF Bool.false_ne_true (Ev.now _))
   ·
    rw [hw, in_eq, decide_eq_false hr]
    exact Ev.some_bind (Ev.ifF Bool.false_ne_true (Ev.now _))
 ·
  exact ⟨(⟨#[]⟩, false), Ev.bind e1 (Ev.ifF Bool.false_ne_true (Ev.now _)), Ev.bind e2 (Ev.ifF Bool.false_ne_true (Ev.now _))⟩
end BranchPrefix
theorem FnExactBranchPrefix : laws_FnExactBranchPrefix.Pure := by
 intro l a hl hs _
 obtain ⟨v, v1, v2⟩ := szP_ev l hl hs
 refine Ev.rounds ?_
 unfold laws_FnExactBranchPrefix.f
 refine Ev.bind v1 ?_
 by_cases h0 : v < 0
 ·
  exact Ev.ifT h0 (Ev.now _)
 ·
  obtain ⟨hlen, hsm⟩ := v2 (by omega)
  obtain ⟨r, h1, h2⟩ := BranchPrefix.both (toB l) (toB_small hsm) a
  have he := eqPressed_ev (toB l) (by rw [toB_length]; omega)
  refine Ev.ifF h0 (Ev.bind (toPressed_ev l hlen) (Ev.bind h1 (Ev.bind (toPressed_ev l hlen) (Ev.bind h2 ?_))))
  exact Ev.ifT rfl (Ev.step (fun k => laws_FnExactBranchPrefix.j0.eq_2 ..) (Ev.ifF (by simp) (Ev.bind (toPressed_ev l hlen) (Ev.bind he (Ev.ifT rfl (Ev.now _))))))
end Go.Proofs.YtfhffcefpnkllaaDoor.Pure
namespace Go.Proofs.YtfhffcefpnkllaaDoor.fnExactBranchPrefix
open Go.ChangeShapes Go.WideShapes Go.ChangeAt Go.RowKit Go.Proofs.YtfhffcefpnkllaaDoor.P
open Go.ChangeMaps (open_string shut_string)
def laidL : List (String × DataW Unit) := [("unicode/utf8.acceptRanges", Rows.laid_unicode_utf8_acceptRanges), ("unicode/utf8.first", Rows.laid_unicode_utf8_first)]
theorem own : ownKnob Tryd.prog.godebug = none := by kernel_rfl
theorem laidOut : laidOutB Tryd.prog = true := by kernel_rfl
theorem lifted (os : Os) (started : os.Started) (H : Type) (enc : TypeId × Value → H) :
    ReturnsInHanded {} Tryd.checked os 4 .any (fun w args => (Rows.fnExactBranchPrefixSpec.pre enc Tryd.prog Tryd.f4 [] false w args ∧ laidMetH Tryd.prog laidL w) ∧ sizedMet enc Tryd.prog Tryd.f4 (OpenSpec.ofChange Rows.fnExactBranchPrefixSpec) false w args) (Rows.fnExactBranchPrefixSpec.post enc Tryd.prog Tryd.f4 false true false false) := by
  refine returnsInHanded_of_change_and (C := Tryd.checked) (X := fun w _ => laidMetH Tryd.prog laidL w) (fun _ _ _ hh h => h.of_heap hh) own started (by kernel_rfl) Tryd.func4
    (ChangeSpec.witness_shaped (enc := enc) (C := Tryd.checked) (os := os) (X := fun w _ => laidMetH Tryd.prog laidL w) false (World.laidAll Tryd.prog os laidL) #[.agg #[.slice none 0 0], .int .i64 0] 8 (World.laidAll_os _ _ _) (World.shaped_of_ZipB (by kernel_rfl) (by kernel_rfl)) (by kernel_rfl) (by kernel_rfl) (by kernel_rfl)
      (by rw [MakeChecks.laidMetH_plain _ _ _ (by kernel_rfl)]; exact laidMet_laidAll _ (by kernel_rfl) (by kernel_rfl))) ?_
  intro W base args ds gs before hval0 hW hcnd hsz0 hL_ _
  have hsz : (DataW.weightsEach Tryd.prog (Tryd.f4.params.toList ++ Rows.fnExactBranchPrefixSpec.plain.varTypes Tryd.prog) (ds ++ gs)).all (· ≤ reachBytes) = true := hsz0
  have hval : ∀ (j : Nat) t v, Tryd.f4.params[j]? = some t → args[j]? = some v → Value.okWide Tryd.prog W .any base t v := hval0
  have hW' := hW
  obtain ⟨p, q, hA0, hV, rfl, hfz, hnd⟩ := hW
  have hA : DataW.TrodAll enc Tryd.prog W 0 (fun _ => true) true Tryd.f4.params.toList args.toList ds p := hA0
  rw [Tryd.params4] at hA hval hsz
  obtain ⟨v0, vs0, d0, ds0, p0, q0, hargs, rfl, rfl, h0, r0⟩ := trodAll_cons hA
  obtain ⟨v1, vs1, d1, ds1, p1, q1, rfl, rfl, rfl, h1, r1⟩ := trodAll_cons r0
  obtain ⟨rfl, rfl, rfl⟩ := trodAll_nil r1
  obtain rfl : args = #[v0, v1] := by cases args; simp_all
  obtain ⟨rfl, rfl⟩ := trodVars_none hV
  have k0 := h0
  have lt0 : ∀ x ∈ p0, x.block < W.heap.size := by obtain ⟨m, hm⟩ := k0; exact DataW.trod_lt m _ _ _ hm
  obtain ⟨A0, c0, l0, ev0, hc0, hr0, hs0⟩ := OPr.pressed (hval 0 24 v0 rfl rfl) h0
  subst ev0
  obtain ⟨a1, rfl, rfl, rfl, w1⟩ := open_int Tryd.underlying3 (hval 1 3 v1 rfl rfl) h1
  clear hA0 hval0 hsz0 hsz
  refine (laws_FnExactBranchPrefix.walk Pure.FnExactBranchPrefix W A0 c0 l0 hr0 hc0 hs0 a1 w1).mono fun e W' ⟨he, bel⟩ => ?_
  subst he
  exact ⟨_, rfl, _, _, _, [], _, [], hW', trodAll_mk1 (shut_bool Tryd.underlying4 _), (trodAll_cons_mk (Below.trod laidOut (by kernel_rfl) (of_decide_eq_true (by kernel_rfl)) k0 bel lt0) (trodAll_cons_mk (shut_int Tryd.underlying3 w1) trodAll_mk0)), rfl, bel.frame _, fun h => by cases h⟩
theorem over : Rows.fnExactBranchPrefixRow.holds Tryd.pinned (OpenSpec.ofChange Rows.fnExactBranchPrefixSpec) :=
  OpenClaim.holds_of_wide 4 Tryd.f4 rfl rfl rfl rfl rfl rfl rfl ⟨rfl, rfl, rfl, rfl, rfl⟩ rfl rfl rfl rfl rfl (by kernel_rfl) Tryd.func4 (by kernel_rfl)
    (of_decide_eq_true (by kernel_rfl)) (by unfold Func.isWrapper; first | (rw [if_pos (by decide +kernel)]; kernel_rfl) | (rw [if_neg (by decide +kernel)]; exact ⟨rfl, rfl⟩))
    (fun os started H enc _ => lifted os started H enc)
theorem proved : Rows.FnExactBranchPrefixSaid := over
end Go.Proofs.YtfhffcefpnkllaaDoor.fnExactBranchPrefix
namespace Go.Proofs.YtfhffcefpnkllaaDoor
theorem fnExactBranchPrefix_holds : Rows.FnExactBranchPrefixSaid := fnExactBranchPrefix.proved
theorem fnExactBranchPrefix_card : Rows.FnExactBranchPrefixCardSaid :=
  Claim7.holds_tied_plain_at .later [] [.data, .pinned] true (true, "97b29d604ec60663e25153da0d9bc01aba1077f8cce9963c8e9a0e4698d57707") false
    fnExactBranchPrefix_holds (fun _ h => by cases h) (by kernel_rfl) (fun _ h => by cases h) fnExactBranchPrefix_row_tie rfl ⟨rfl, rfl⟩ (by kernel_rfl) rfl
    (fun f fn hf hfn => by
      obtain rfl : f = 4 := Option.some.inj ((show Tryd.prog.funcNamed "loop.example/g01243/laws.FnExactBranchPrefix" = some 4 by kernel_rfl).symm.trans hf) |>.symm
      obtain rfl : fn = Tryd.f4 := (Option.some.inj (Tryd.func4.symm.trans hfn)).symm
      exact ⟨by kernel_rfl, fun j t ht => by
        rw [Tryd.params4] at ht
        have hm : t ∈ [24, 3] := by simpa using Array.mem_of_getElem? ht
        have hall : ([24, 3].all fun u => !Tryd.prog.wantsStandIn u) = true := by kernel_rfl
        exact (show Tryd.prog.wantsStandIn t = false by simpa using List.all_eq_true.1 hall t hm)⟩)
    (by kernel_rfl)
end Go.Proofs.YtfhffcefpnkllaaDoor
