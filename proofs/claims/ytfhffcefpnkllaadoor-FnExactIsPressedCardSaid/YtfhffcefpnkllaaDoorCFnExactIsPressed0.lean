/-
  Part 1 of the proof that FnExactIsPressed returns true for every input: the functions that it reaches, each with its contract, and the law.
  Conditions: those of the given statement, no others.
-/
import Derived.Test.YtfhffcefpnkllaaDoorKaW0
import Derived.Test.YtfhffcefpnkllaaDoorRows
import Derived.WalkKit
import Derived.ProofKit
import Derived.OpenShut
import Derived.ShutString
import Derived.ChangeOld
import Derived.Below
import Derived.SizedLaws
import Derived.Lay
import Derived.LaidOnce
import Derived.SevenTiedAt
import Derived.Test.YtfhffcefpnkllaaDoorCards
import Derived.Test.YtfhffcefpnkllaaDoorTie
import Derived.Test.YtfhffcefpnkllaaDoorKa0
import Derived.Test.YtfhffcefpnkllaaDoorKa3
import Derived.Test.YtfhffcefpnkllaaDoorKa1
import Derived.Test.YtfhffcefpnkllaaDoorKa2
import Derived.Test.YtfhffcefpnkllaaDoorKa4
set_option linter.unusedVariables false
set_option linter.unusedSimpArgs false
set_option maxHeartbeats 8000000
set_option maxRecDepth 100000
namespace Go.Proofs.YtfhffcefpnkllaaDoor.P
open Go.RowKit Go.Proofs.YtfhffcefpnkllaaDoorW.PrintWords Go.Proofs.YtfhffcefpnkllaaDoorW.PrintLast Go.Proofs.YtfhffcefpnkllaaDoorW.PrintMore
open List renaming setIfInBounds_toArray → sA_, set_cons_zero → sB_, set_cons_succ → sC_, map_toArray → sD_, map_cons → sE_, map_nil → sF_, length_drop → sG_, length_take → sH_
open Bool renaming true → ty, false → fy
open Aside0 renaming mk → aM_
attribute [local go_sem] max2_int min2_int max_two min_two max_three min_three max_four min_four
def spec_IsPressed.f (k : Nat) (l0_0 : List (S56)) : Option (Bool) := (spec_l4Open.f k l0_0).bind fun bt269 => (some bt269.2)
theorem spec_IsPressed.mono : ∀ a0 k, LeO (spec_IsPressed.f k a0) (spec_IsPressed.f (k + 1) a0) := by
 intro a0 k
 unfold spec_IsPressed.f
 repeat' first
   | (with_reducible exact spec_l4Open.mono _ _)
   | (with_reducible exact LeO.refl _)
   | (with_reducible exact LeO.none _)
   | (with_reducible refine LeO.ite ?_ ?_)
   | (with_reducible refine LeO.bind ?_ (fun _ => ?_))
   | exact spec_l4Open.mono _ _
   | exact LeO.none _
   | refine LeO.ite ?_ ?_
   | refine LeO.bind ?_ (fun _ => ?_)
theorem spec_IsPressed.calls (k : Nat) (A0_0 : Option Addr) (c0_0 : Nat) (l0_0 : List (S56)) (r : Bool) (w : World) (hr0_0 : Kd.C k56 w A0_0 l0_0.length l0_0) (hc0_0 : l0_0.length ≤ c0_0) (h : spec_IsPressed.f k l0_0 = some r) :
  Calls Tryd.prog 9 #[.agg #[.slice A0_0 l0_0.length c0_0]] w fun e w' => e = .returned (.bool r) ∧ Below w.heap.size w w' := by
 have hu29 := Tryd.underlying29
 have hu44 := Tryd.underlying44
 have HR0_0 := aM_ hr0_0
 have HC0_0 := aM_ hc0_0
 clear hr0_0 hc0_0
 have HB := aM_ (Below.refl w.heap.size w)
 have H : ((spec_l4Open.f k l0_0).bind fun bt269 => (some bt269.2)) = some r := h
 clear h
 replace H := Option.bind_eq_some_iff.mp H
 obtain ⟨⟨t269, t272⟩, A20, H⟩ := H
 try dsimp only at H
 have A2 := aM_ A20
 clear A20
 obtain rfl := Option.some.inj H
 go_enter Tryd.func9, Tryd.ntmps9
 go_wp2_with (first | ((with_reducible refine gate_dst (N := 1) rfl ?_); refine box_event ?hg (N := 1) ?hd (cs := #[.slice A0_0 l0_0.length c0_0]) (t := 29) ?hr ?_; (case hd => rfl); (case hg => rfl); (case hr => (go_simp; done)); intro gb268 hg w3 hbox hb; have BK268 := aM_ (hbox); have GW268 := aM_ ((by rw [hg]; exact (below_size HB.out) : w.heap.size ≤ gb268)); have GE268 := GW268; replace HB := aM_ (below_step HB.out hb); clear hb hbox hg; have hcz4_0 : w3.cell? ⟨gb268, 0, none⟩ = some (.slice A0_0 l0_0.length c0_0) := (blk_cell BK268.out 0).trans rfl; have hfz4_0 := blk_frozen BK268.out 0) | ((with_reducible refine gate_callee (f := 22) rfl ?_); refine goesL_ (some 7) rfl rfl Tryd.func22 (by kernel_rfl) rfl #[.agg #[.slice A0_0 l0_0.length c0_0]] rfl (by (try simp only [sD_, sE_, sF_]); rfl) ?_; (with_reducible refine (spec_l4Open.calls k _ _ l0_0 t269 t272 _ ?side1 ?side2 A2.out).mono ?_); (case side1 => repeat (first | exact (Kd.C_below HR0_0.out HB.out) | (with_reducible refine Kd.C_alloc ?_ _) | (with_reducible refine Kd.C_drewN ?_ _) | (with_reducible refine Kd.C_drew ?_))); (case side2 => exact HC0_0.out); rintro e w5 ⟨v270, rfl, ho0, hb⟩; refine ⟨_, rfl, ?_⟩; have HO271 := aM_ (Kd.R_lower ho0 (below_size HB.out)); replace BK268 := aM_ (blk_below BK268.out hb); replace HB := aM_ (below_step HB.out hb); (try clear hb); (try clear hb2); (try clear hk); (try clear hi); (try clear ho0)) | ((with_reducible refine gate_dst (N := 3) rfl ?_); refine box_event ?hg (N := 3) ?hd (cs := #[.slice none 0 0]) (t := 44) ?hr ?_; (case hd => rfl); (case hg => rfl); (case hr => (go_simp; done)); intro gb273 hg w6 hbox hb; replace HO271 := aM_ (Kd.R_below HO271.out hb); have BK273 := aM_ (hbox); have GW273 := aM_ ((by rw [hg]; exact (below_size HB.out) : w.heap.size ≤ gb273)); have GE273 := GW273; replace HB := aM_ (below_step HB.out hb); have NB268_273 := aM_ ((by rw [hg]; exact Nat.ne_of_lt (blk_lt BK268.out) : gb268 ≠ gb273)); have NB273_268 := aM_ NB268_273.out.symm; replace BK268 := aM_ (blk_below BK268.out hb); clear hb hbox hg; obtain ⟨Ao7, co7, eo7⟩ := Kd.R_slice HO271.out; subst eo7; have hnb8 := NB273_268.out; have hnc8 := NB268_273.out; have hcz9_0 : w6.cell? ⟨gb273, 0, none⟩ = some (.slice none 0 0) := (blk_cell BK273.out 0).trans rfl; have hfz9_0 := blk_frozen BK273.out 0))
 go_ret
 exact ⟨by rfl, by repeat (first | (with_reducible first | exact HB.out | apply below_alloc | apply pw_below_drewN | apply below_drew1 | refine below_set ?_ GE268.out | refine below_set ?_ GE273.out) | exact HB.out)⟩
def laws_FnExactIsPressed.f (k : Nat) (l0_0 : List (S61)) : Option (Bool) := (laws_szPressed.f k l0_0 1048576).bind fun t450 => (if t450 < 0 then (some true) else ((laws_toPressed.f k l0_0).bind fun t451 => ((spec_IsPressed.f k t451).bind fun t454 => ((laws_toPressed.f k l0_0).bind fun t455 => ((impl_IsPressed.f k t455).bind fun t459 => (if (t459 != t454) = true then (some false) else ((laws_toPressed.f k l0_0).bind fun t460 => ((laws_eqPressed.f k t455 t460).bind fun t463 => (if t463 = true then (some true) else (some false))))))))))
theorem laws_FnExactIsPressed.mono : ∀ a0 k, LeO (laws_FnExactIsPressed.f k a0) (laws_FnExactIsPressed.f (k + 1) a0) := by
 intro a0 k
 unfold laws_FnExactIsPressed.f
 repeat' first
   | (with_reducible exact impl_IsPressed.mono _ _)
   | (with_reducible exact laws_eqPressed.mono _ _ _)
   | (with_reducible exact laws_szPressed.mono _ _ _)
   | (with_reducible exact laws_toPressed.mono _ _)
   | (with_reducible exact spec_IsPressed.mono _ _)
   | (with_reducible exact LeO.refl _)
   | (with_reducible exact LeO.none _)
   | (with_reducible refine LeO.ite ?_ ?_)
   | (with_reducible refine LeO.bind ?_ (fun _ => ?_))
   | exact impl_IsPressed.mono _ _
   | exact laws_eqPressed.mono _ _ _
   | exact laws_szPressed.mono _ _ _
   | exact laws_toPressed.mono _ _
   | exact spec_IsPressed.mono _ _
   | exact LeO.none _
   | refine LeO.ite ?_ ?_
   | refine LeO.bind ?_ (fun _ => ?_)
theorem laws_FnExactIsPressed.calls (k : Nat) (A0_0 : Option Addr) (c0_0 : Nat) (l0_0 : List (S61)) (r : Bool) (w : World) (hr0_0 : Kd.C k61 w A0_0 l0_0.length l0_0) (hc0_0 : l0_0.length ≤ c0_0) (h : laws_FnExactIsPressed.f k l0_0 = some r) :
  Calls Tryd.prog 3 #[.agg #[.slice A0_0 l0_0.length c0_0]] w fun e w' => e = .returned (.bool r) ∧ Below w.heap.size w w' := by
 have hu24 := Tryd.underlying24
 have hu29 := Tryd.underlying29
 have HR0_0 := aM_ hr0_0
 have HC0_0 := aM_ hc0_0
 clear hr0_0 hc0_0
 have HB := aM_ (Below.refl w.heap.size w)
 have H : ((laws_szPressed.f k l0_0 1048576).bind fun t450 => (if t450 < 0 then (some true) else ((laws_toPressed.f k l0_0).bind fun t451 => ((spec_IsPressed.f k t451).bind fun t454 => ((laws_toPressed.f k l0_0).bind fun t455 => ((impl_IsPressed.f k t455).bind fun t459 => (if (t459 != t454) = true then (some false) else ((laws_toPressed.f k l0_0).bind fun t460 => ((laws_eqPressed.f k t455 t460).bind fun t463 => (if t463 = true then (some true) else (some false))))))))))) = some r := h
 clear h
 replace H := Option.bind_eq_some_iff.mp H
 obtain ⟨t450, A20, H⟩ := H
 try dsimp only at H
 have A2 := aM_ A20
 clear A20
 by_cases c3 : t450 < 0
 ·
  rw [if_pos c3] at H
  have c3b0 := decide_eq_true c3
  clear c3
  obtain rfl := Option.some.inj H
  go_enter Tryd.func3, Tryd.ntmps3
  go_wp2_with (first | ((with_reducible refine gate_dst (N := 1) rfl ?_); refine box_event ?hg (N := 1) ?hd (cs := #[.slice A0_0 l0_0.length c0_0]) (t := 24) ?hr ?_; (case hd => rfl); (case hg => rfl); (case hr => (go_simp; done)); intro gb449 hg w4 hbox hb; have BK449 := aM_ (hbox); have GW449 := aM_ ((by rw [hg]; exact (below_size HB.out) : w.heap.size ≤ gb449)); have GE449 := GW449; replace HB := aM_ (below_step HB.out hb); clear hb hbox hg; have hcz5_0 : w4.cell? ⟨gb449, 0, none⟩ = some (.slice A0_0 l0_0.length c0_0) := (blk_cell BK449.out 0).trans rfl; have hfz5_0 := blk_frozen BK449.out 0) | ((with_reducible refine gate_callee (f := 8) rfl ?_); refine goesL_ (some 9) rfl rfl Tryd.func8 (by kernel_rfl) rfl #[.agg #[.slice A0_0 l0_0.length c0_0], .int .i64 1048576] rfl (by (try simp only [sD_, sE_, sF_]); rfl) ?_; (with_reducible refine (laws_szPressed.calls k _ _ l0_0 1048576 t450 _ ?side1 ?side2 A2.out).mono ?_); (case side1 => repeat (first | exact (Kd.C_below HR0_0.out HB.out) | (with_reducible refine Kd.C_alloc ?_ _) | (with_reducible refine Kd.C_drewN ?_ _) | (with_reducible refine Kd.C_drew ?_))); (case side2 => exact HC0_0.out); rintro e w6 ⟨rfl, hb⟩; refine ⟨_, rfl, ?_⟩; replace BK449 := aM_ (blk_below BK449.out hb); replace HB := aM_ (below_step HB.out hb); (try clear hb); (try clear hb2); (try clear hk); (try clear hi)))
  go_ret
  exact ⟨by rfl, by exact HB.out⟩
 ·
  rw [if_neg c3] at H
  have c3b0 := decide_eq_false c3
  clear c3
  replace H := Option.bind_eq_some_iff.mp H
  obtain ⟨t451, A70, H⟩ := H
  try dsimp only at H
  have A7 := aM_ A70
  clear A70
  replace H := Option.bind_eq_some_iff.mp H
  obtain ⟨t454, A80, H⟩ := H
  try dsimp only at H
  have A8 := aM_ A80
  clear A80
  replace H := Option.bind_eq_some_iff.mp H
  obtain ⟨t455, A90, H⟩ := H
  try dsimp only at H
  have A9 := aM_ A90
  clear A90
  replace H := Option.bind_eq_some_iff.mp H
  obtain ⟨t459, A100, H⟩ := H
  try dsimp only at H
  have A10 := aM_ A100
  clear A100
  by_cases c11 : (t459 != t454) = true
  ·
   rw [if_pos c11] at H
   have c11b0 : (t459 != t454) = true := c11
   (try (have c11b1 : decide (t459 = t454) = false := by simpa using c11))
   (try (have c11b2 : (t459 == t454) = false := by simpa using c11))
   (try (have c11b3 : ¬ (t459 = t454) := by simpa using c11))
   clear c11
   obtain rfl := Option.some.inj H
   go_enter Tryd.func3, Tryd.ntmps3
   go_wp2_with (first | ((with_reducible refine gate_dst (N := 1) rfl ?_); refine box_event ?hg (N := 1) ?hd (cs := #[.slice A0_0 l0_0.length c0_0]) (t := 24) ?hr ?_; (case hd => rfl); (case hg => rfl); (case hr => (go_simp; done)); intro gb449 hg w12 hbox hb; have BK449 := aM_ (hbox); have GW449 := aM_ ((by rw [hg]; exact (below_size HB.out) : w.heap.size ≤ gb449)); have GE449 := GW449; replace HB := aM_ (below_step HB.out hb); clear hb hbox hg; have hcz13_0 : w12.cell? ⟨gb449, 0, none⟩ = some (.slice A0_0 l0_0.length c0_0) := (blk_cell BK449.out 0).trans rfl; have hfz13_0 := blk_frozen BK449.out 0) | ((with_reducible refine gate_callee (f := 8) rfl ?_); refine goesL_ (some 9) rfl rfl Tryd.func8 (by kernel_rfl) rfl #[.agg #[.slice A0_0 l0_0.length c0_0], .int .i64 1048576] rfl (by (try simp only [sD_, sE_, sF_]); rfl) ?_; (with_reducible refine (laws_szPressed.calls k _ _ l0_0 1048576 t450 _ ?side1 ?side2 A2.out).mono ?_); (case side1 => repeat (first | exact (Kd.C_below HR0_0.out HB.out) | (with_reducible refine Kd.C_alloc ?_ _) | (with_reducible refine Kd.C_drewN ?_ _) | (with_reducible refine Kd.C_drew ?_))); (case side2 => exact HC0_0.out); rintro e w14 ⟨rfl, hb⟩; refine ⟨_, rfl, ?_⟩; replace BK449 := aM_ (blk_below BK449.out hb); replace HB := aM_ (below_step HB.out hb); (try clear hb); (try clear hb2); (try clear hk); (try clear hi); have hcz15_0 : w14.cell? ⟨gb449, 0, none⟩ = some (.slice A0_0 l0_0.length c0_0) := (blk_cell BK449.out 0).trans rfl; have hfz15_0 := blk_frozen BK449.out 0) | ((with_reducible refine gate_callee (f := 10) rfl ?_); refine goesL_ (some 13) rfl rfl Tryd.func10 (by kernel_rfl) rfl #[.agg #[.slice A0_0 l0_0.length c0_0]] rfl (by (try simp only [sD_, sE_, sF_]); rfl) ?_; (with_reducible refine (laws_toPressed.calls k _ _ l0_0 t451 _ ?side1 ?side2 A7.out).mono ?_); (case side1 => repeat (first | exact (Kd.C_below HR0_0.out HB.out) | (with_reducible refine Kd.C_alloc ?_ _) | (with_reducible refine Kd.C_drewN ?_ _) | (with_reducible refine Kd.C_drew ?_))); (case side2 => exact HC0_0.out); rintro e w16 ⟨v452, rfl, ho0, hb⟩; refine ⟨_, rfl, ?_⟩; have HO453 := aM_ (Kd.R_lower ho0 (below_size HB.out)); replace BK449 := aM_ (blk_below BK449.out hb); replace HB := aM_ (below_step HB.out hb); (try clear hb); (try clear hb2); (try clear hk); (try clear hi); (try clear ho0); obtain ⟨Ao17, co17, eo17⟩ := Kd.R_slice HO453.out; subst eo17) | ((with_reducible refine gate_callee (f := 9) rfl ?_); refine goesL_ (some 14) rfl rfl Tryd.func9 (by kernel_rfl) rfl #[.agg #[.slice Ao17 t451.length co17]] rfl (by (try simp only [sD_, sE_, sF_]); rfl) ?_; (with_reducible refine (spec_IsPressed.calls k _ _ t451 t454 _ ?side1 ?side2 A8.out).mono ?_); (case side1 => repeat (first | exact (Kd.R_reads' HO453.out).2.2 | (with_reducible refine Kd.C_alloc ?_ _) | (with_reducible refine Kd.C_drewN ?_ _) | (with_reducible refine Kd.C_drew ?_))); (case side2 => exact (Kd.R_reads' HO453.out).2.1); rintro e w18 ⟨rfl, hb⟩; refine ⟨_, rfl, ?_⟩; replace HO453 := aM_ (Kd.R_below HO453.out hb); replace BK449 := aM_ (blk_below BK449.out hb); replace HB := aM_ (below_step HB.out hb); (try clear hb); (try clear hb2); (try clear hk); (try clear hi); have hcz19_0 : w18.cell? ⟨gb449, 0, none⟩ = some (.slice A0_0 l0_0.length c0_0) := (blk_cell BK449.out 0).trans rfl; have hfz19_0 := blk_frozen BK449.out 0) | ((with_reducible refine gate_callee (f := 10) rfl ?_); refine goesL_ (some 16) rfl rfl Tryd.func10 (by kernel_rfl) rfl #[.agg #[.slice A0_0 l0_0.length c0_0]] rfl (by (try simp only [sD_, sE_, sF_]); rfl) ?_; (with_reducible refine (laws_toPressed.calls k _ _ l0_0 t455 _ ?side1 ?side2 A9.out).mono ?_); (case side1 => repeat (first | exact (Kd.C_below HR0_0.out HB.out) | (with_reducible refine Kd.C_alloc ?_ _) | (with_reducible refine Kd.C_drewN ?_ _) | (with_reducible refine Kd.C_drew ?_))); (case side2 => exact HC0_0.out); rintro e w20 ⟨v456, rfl, ho0, hb⟩; refine ⟨_, rfl, ?_⟩; have HO457 := aM_ (Kd.R_lower (Kd.R_new' ho0 (Kd.R_lt HO453.out)) (below_size HB.out)); replace HO453 := aM_ (Kd.R_elder' HO453.out (Kd.R_base ho0) hb); replace BK449 := aM_ (blk_below BK449.out hb); replace HB := aM_ (below_step HB.out hb); (try clear hb); (try clear hb2); (try clear hk); (try clear hi); (try clear ho0)) | ((with_reducible refine gate_dst (N := 5) rfl ?_); refine box_event ?hg (N := 5) ?hd (cs := #[.slice none 0 0]) (t := 29) ?hr ?_; (case hd => rfl); (case hg => rfl); (case hr => (go_simp; done)); intro gb458 hg w21 hbox hb; replace HO453 := aM_ (Kd.R_below HO453.out hb); replace HO457 := aM_ (Kd.R_below HO457.out hb); have BK458 := aM_ (hbox); have GW458 := aM_ ((by rw [hg]; exact (below_size HB.out) : w.heap.size ≤ gb458)); have GE458 := GW458; replace HB := aM_ (below_step HB.out hb); have NB449_458 := aM_ ((by rw [hg]; exact Nat.ne_of_lt (blk_lt BK449.out) : gb449 ≠ gb458)); have NB458_449 := aM_ NB449_458.out.symm; replace BK449 := aM_ (blk_below BK449.out hb); clear hb hbox hg; obtain ⟨Ao22, co22, eo22⟩ := Kd.R_slice HO457.out; subst eo22; have hnb23 := NB458_449.out; have hnc23 := NB449_458.out; have hcz24_0 : w21.cell? ⟨gb458, 0, none⟩ = some (.slice none 0 0) := (blk_cell BK458.out 0).trans rfl; have hfz24_0 := blk_frozen BK458.out 0) | ((with_reducible refine gate_callee (f := 11) rfl ?_); refine goesL_ (some 18) rfl rfl Tryd.func11 (by kernel_rfl) rfl #[.agg #[.slice Ao22 t455.length co22]] rfl (by (try simp only [sD_, sE_, sF_]); rfl) ?_; (with_reducible refine (impl_IsPressed.calls k _ _ t455 t459 _ ?side1 ?side2 A10.out).mono ?_); (case side1 => refine (Kd.R_reads' (e := 56) (base := w.heap.size) (ok := fun k_ => (True ∧ some k_ ≠ (.slice Ao17 t451.length co17 : Value).ownBlock)) (n := t455.length) (c := co22) ?_).2.2; exact (by exact (Kd.R_mono (Kd.R_far (p := ⟨gb458, 0, none⟩) (Kd.R_types HO457.out BK458.out (by decide)) (fun _ hk => hk.2) (.slice Ao22 t455.length co22)) (fun _ h_ => h_.1)))); (case side2 => exact (Kd.R_reads' HO457.out).2.1); rintro e w25 ⟨rfl, hb⟩; refine ⟨_, rfl, ?_⟩; replace HO453 := aM_ (Kd.R_below (by exact (Kd.R_mono (Kd.R_far (p := ⟨gb458, 0, none⟩) (Kd.R_types HO453.out BK458.out (by decide)) (fun _ hk => hk.2) (.slice Ao22 t455.length co22)) (fun _ h_ => h_.1))) hb); replace HO457 := aM_ (Kd.R_below (by exact (Kd.R_mono (Kd.R_far (p := ⟨gb458, 0, none⟩) (Kd.R_types HO457.out BK458.out (by decide)) (fun _ hk => hk.2) (.slice Ao22 t455.length co22)) (fun _ h_ => h_.1))) hb); replace BK449 := aM_ (blk_below (g := gb449) (o := .cells #[.slice A0_0 l0_0.length c0_0] 24 (0, 0)) (by refine blk_far ?_ NB449_458.out _; exact BK449.out) hb); replace BK458 := aM_ (blk_below (g := gb458) (o := .cells #[.slice Ao22 t455.length co22] 29 (0, 0)) (by refine blk_put (cs := #[.slice none 0 0]) ?_ 0 _ rfl; exact BK458.out) hb); replace HB := aM_ (below_step (by repeat (first | (with_reducible first | exact HB.out | apply below_alloc | apply pw_below_drewN | apply below_drew1 | refine below_set ?_ GE449.out | refine below_set ?_ GE458.out) | exact HB.out)) hb); (try clear hb); (try clear hb2); (try clear hk); (try clear hi)))
   go_ret
   exact ⟨by rfl, by exact HB.out⟩
  ·
   rw [if_neg c11] at H
   have c11b0 : (t459 != t454) = false := by simpa using c11
   (try (have c11b1 : decide (t459 = t454) = true := by simpa using c11))
   (try (have c11b2 : (t459 == t454) = true := by simpa using c11))
   clear c11
   replace H := Option.bind_eq_some_iff.mp H
   obtain ⟨t460, A260, H⟩ := H
   try dsimp only at H
   have A26 := aM_ A260
   clear A260
   replace H := Option.bind_eq_some_iff.mp H
   obtain ⟨t463, A270, H⟩ := H
   try dsimp only at H
   have A27 := aM_ A270
   clear A270
   by_cases c28 : t463 = true
   ·
    subst c28
    rw [if_pos rfl] at H
    obtain rfl := Option.some.inj H
    go_enter Tryd.func3, Tryd.ntmps3
    try go_wp2_with (first | ((with_reducible refine gate_dst (N := 1) rfl ?_); refine box_event ?hg (N := 1) ?hd (cs := #[.slice A0_0 l0_0.length c0_0]) (t := 24) ?hr ?_; (case hd => rfl); (case hg => rfl); (case hr => (go_simp; done)); intro gb449 hg w29 hbox hb; have BK449 := aM_ (hbox); have GW449 := aM_ ((by rw [hg]; exact (below_size HB.out) : w.heap.size ≤ gb449)); have GE449 := GW449; replace HB := aM_ (below_step HB.out hb); clear hb hbox hg; have hcz30_0 : w29.cell? ⟨gb449, 0, none⟩ = some (.slice A0_0 l0_0.length c0_0) := (blk_cell BK449.out 0).trans rfl; have hfz30_0 := blk_frozen BK449.out 0) | ((with_reducible refine gate_callee (f := 8) rfl ?_); refine goesL_ (some 9) rfl rfl Tryd.func8 (by kernel_rfl) rfl #[.agg #[.slice A0_0 l0_0.length c0_0], .int .i64 1048576] rfl (by (try simp only [sD_, sE_, sF_]); rfl) ?_; (with_reducible refine (laws_szPressed.calls k _ _ l0_0 1048576 t450 _ ?side1 ?side2 A2.out).mono ?_); (case side1 => repeat (first | exact (Kd.C_below HR0_0.out HB.out) | (with_reducible refine Kd.C_alloc ?_ _) | (with_reducible refine Kd.C_drewN ?_ _) | (with_reducible refine Kd.C_drew ?_))); (case side2 => exact HC0_0.out); rintro e w31 ⟨rfl, hb⟩; refine ⟨_, rfl, ?_⟩; replace BK449 := aM_ (blk_below BK449.out hb); replace HB := aM_ (below_step HB.out hb); (try clear hb); (try clear hb2); (try clear hk); (try clear hi); have hcz32_0 : w31.cell? ⟨gb449, 0, none⟩ = some (.slice A0_0 l0_0.length c0_0) := (blk_cell BK449.out 0).trans rfl; have hfz32_0 := blk_frozen BK449.out 0) | ((with_reducible refine gate_callee (f := 10) rfl ?_); refine goesL_ (some 13) rfl rfl Tryd.func10 (by kernel_rfl) rfl #[.agg #[.slice A0_0 l0_0.length c0_0]] rfl (by (try simp only [sD_, sE_, sF_]); rfl) ?_; (with_reducible refine (laws_toPressed.calls k _ _ l0_0 t451 _ ?side1 ?side2 A7.out).mono ?_); (case side1 => repeat (first | exact (Kd.C_below HR0_0.out HB.out) | (with_reducible refine Kd.C_alloc ?_ _) | (with_reducible refine Kd.C_drewN ?_ _) | (with_reducible refine Kd.C_drew ?_))); (case side2 => exact HC0_0.out); rintro e w33 ⟨v452, rfl, ho0, hb⟩; refine ⟨_, rfl, ?_⟩; have HO453 := aM_ (Kd.R_lower ho0 (below_size HB.out)); replace BK449 := aM_ (blk_below BK449.out hb); replace HB := aM_ (below_step HB.out hb); (try clear hb); (try clear hb2); (try clear hk); (try clear hi); (try clear ho0); obtain ⟨Ao34, co34, eo34⟩ := Kd.R_slice HO453.out; subst eo34) | ((with_reducible refine gate_callee (f := 9) rfl ?_); refine goesL_ (some 14) rfl rfl Tryd.func9 (by kernel_rfl) rfl #[.agg #[.slice Ao34 t451.length co34]] rfl (by (try simp only [sD_, sE_, sF_]); rfl) ?_; (with_reducible refine (spec_IsPressed.calls k _ _ t451 t454 _ ?side1 ?side2 A8.out).mono ?_); (case side1 => repeat (first | exact (Kd.R_reads' HO453.out).2.2 | (with_reducible refine Kd.C_alloc ?_ _) | (with_reducible refine Kd.C_drewN ?_ _) | (with_reducible refine Kd.C_drew ?_))); (case side2 => exact (Kd.R_reads' HO453.out).2.1); rintro e w35 ⟨rfl, hb⟩; refine ⟨_, rfl, ?_⟩; replace HO453 := aM_ (Kd.R_below HO453.out hb); replace BK449 := aM_ (blk_below BK449.out hb); replace HB := aM_ (below_step HB.out hb); (try clear hb); (try clear hb2); (try clear hk); (try clear hi); have hcz36_0 : w35.cell? ⟨gb449, 0, none⟩ = some (.slice A0_0 l0_0.length c0_0) := (blk_cell BK449.out 0).trans rfl; have hfz36_0 := blk_frozen BK449.out 0) | ((with_reducible refine gate_callee (f := 10) rfl ?_); refine goesL_ (some 16) rfl rfl Tryd.func10 (by kernel_rfl) rfl #[.agg #[.slice A0_0 l0_0.length c0_0]] rfl (by (try simp only [sD_, sE_, sF_]); rfl) ?_; (with_reducible refine (laws_toPressed.calls k _ _ l0_0 t455 _ ?side1 ?side2 A9.out).mono ?_); (case side1 => repeat (first | exact (Kd.C_below HR0_0.out HB.out) | (with_reducible refine Kd.C_alloc ?_ _) | (with_reducible refine Kd.C_drewN ?_ _) | (with_reducible refine Kd.C_drew ?_))); (case side2 => exact HC0_0.out); rintro e w37 ⟨v456, rfl, ho0, hb⟩; refine ⟨_, rfl, ?_⟩; have HO457 := aM_ (Kd.R_lower (Kd.R_new' ho0 (Kd.R_lt HO453.out)) (below_size HB.out)); replace HO453 := aM_ (Kd.R_elder' HO453.out (Kd.R_base ho0) hb); replace BK449 := aM_ (blk_below BK449.out hb); replace HB := aM_ (below_step HB.out hb); (try clear hb); (try clear hb2); (try clear hk); (try clear hi); (try clear ho0)) | ((with_reducible refine gate_dst (N := 5) rfl ?_); refine box_event ?hg (N := 5) ?hd (cs := #[.slice none 0 0]) (t := 29) ?hr ?_; (case hd => rfl); (case hg => rfl); (case hr => (go_simp; done)); intro gb458 hg w38 hbox hb; replace HO453 := aM_ (Kd.R_below HO453.out hb); replace HO457 := aM_ (Kd.R_below HO457.out hb); have BK458 := aM_ (hbox); have GW458 := aM_ ((by rw [hg]; exact (below_size HB.out) : w.heap.size ≤ gb458)); have GE458 := GW458; replace HB := aM_ (below_step HB.out hb); have NB449_458 := aM_ ((by rw [hg]; exact Nat.ne_of_lt (blk_lt BK449.out) : gb449 ≠ gb458)); have NB458_449 := aM_ NB449_458.out.symm; replace BK449 := aM_ (blk_below BK449.out hb); clear hb hbox hg; obtain ⟨Ao39, co39, eo39⟩ := Kd.R_slice HO457.out; subst eo39; have hnb40 := NB458_449.out; have hnc40 := NB449_458.out; have hcz41_0 : w38.cell? ⟨gb458, 0, none⟩ = some (.slice none 0 0) := (blk_cell BK458.out 0).trans rfl; have hfz41_0 := blk_frozen BK458.out 0) | ((with_reducible refine gate_callee (f := 11) rfl ?_); refine goesL_ (some 18) rfl rfl Tryd.func11 (by kernel_rfl) rfl #[.agg #[.slice Ao39 t455.length co39]] rfl (by (try simp only [sD_, sE_, sF_]); rfl) ?_; (with_reducible refine (impl_IsPressed.calls k _ _ t455 t459 _ ?side1 ?side2 A10.out).mono ?_); (case side1 => refine (Kd.R_reads' (e := 56) (base := w.heap.size) (ok := fun k_ => (True ∧ some k_ ≠ (.slice Ao34 t451.length co34 : Value).ownBlock)) (n := t455.length) (c := co39) ?_).2.2; exact (by exact (Kd.R_mono (Kd.R_far (p := ⟨gb458, 0, none⟩) (Kd.R_types HO457.out BK458.out (by decide)) (fun _ hk => hk.2) (.slice Ao39 t455.length co39)) (fun _ h_ => h_.1)))); (case side2 => exact (Kd.R_reads' HO457.out).2.1); rintro e w42 ⟨rfl, hb⟩; refine ⟨_, rfl, ?_⟩; replace HO453 := aM_ (Kd.R_below (by exact (Kd.R_mono (Kd.R_far (p := ⟨gb458, 0, none⟩) (Kd.R_types HO453.out BK458.out (by decide)) (fun _ hk => hk.2) (.slice Ao39 t455.length co39)) (fun _ h_ => h_.1))) hb); replace HO457 := aM_ (Kd.R_below (by exact (Kd.R_mono (Kd.R_far (p := ⟨gb458, 0, none⟩) (Kd.R_types HO457.out BK458.out (by decide)) (fun _ hk => hk.2) (.slice Ao39 t455.length co39)) (fun _ h_ => h_.1))) hb); replace BK449 := aM_ (blk_below (g := gb449) (o := .cells #[.slice A0_0 l0_0.length c0_0] 24 (0, 0)) (by refine blk_far ?_ NB449_458.out _; exact BK449.out) hb); replace BK458 := aM_ (blk_below (g := gb458) (o := .cells #[.slice Ao39 t455.length co39] 29 (0, 0)) (by refine blk_put (cs := #[.slice none 0 0]) ?_ 0 _ rfl; exact BK458.out) hb); replace HB := aM_ (below_step (by repeat (first | (with_reducible first | exact HB.out | apply below_alloc | apply pw_below_drewN | apply below_drew1 | refine below_set ?_ GE449.out | refine below_set ?_ GE458.out) | exact HB.out)) hb); (try clear hb); (try clear hb2); (try clear hk); (try clear hi)))
    have n0_ := aM_ (Kd.R_drew HO453.out)
    have n1_ := aM_ (Kd.R_drew HO457.out)
    have n2_ := aM_ (blk_drew BK449.out)
    have n3_ := aM_ (blk_drew BK458.out)
    have n4_ := aM_ (below_drew1 HB.out)
    clear HO453
    clear HO457
    clear BK449
    clear BK458
    clear HB
    have HO453 := n0_
    have HO457 := n1_
    have BK449 := n2_
    have BK458 := n3_
    have HB := n4_
    clear n0_ n1_ n2_ n3_ n4_
    refine start_ (n := 5) (S := fun w' => w'.cell? ⟨gb458, 0, none⟩ = some (.slice Ao39 t455.length co39) ∧ w'.cell? ⟨gb449, 0, none⟩ = some (.slice A0_0 l0_0.length c0_0)) (ds := []) #[fy, fy, fy, fy, fy] (by kernel_rfl) rfl rfl ⟨(blk_cell BK458.out 0).trans rfl, (blk_cell BK449.out 0).trans rfl⟩ (fun hHeld => ?_)
    generalize w42.drew = w43 at HO453 HO457 BK449 BK458 HB hHeld ⊢
    refine take_ (i := 0) (N := some 22) (v := ?_) (a' := ?_) #[ty, fy, fy, fy, fy] rfl rfl (by kernel_rfl) (fun _ _ _ h => h) (Or.inl ⟨by rfl, ?_⟩) hHeld ?_ ?_; rotate_left; (rintro w' ⟨s0, s1⟩; go_simp; with_reducible rfl); rotate_left; (simp only [Act.put, sA_, sB_, sC_, i64_w, i32_w]; rfl)
    refine take_ (i := 1) (N := some 23) (v := ?_) (a' := ?_) #[ty, ty, fy, fy, fy] rfl rfl (by kernel_rfl) (fun _ _ _ h => h) (Or.inl ⟨by rfl, ?_⟩) hHeld ?_ ?_; rotate_left; (rintro w' ⟨s0, s1⟩; go_simp; with_reducible rfl); rotate_left; (simp only [Act.put, sA_, sB_, sC_, i64_w, i32_w]; rfl)
    refine one_ (i := 2) (N := some 24) #[ty, ty, ty, fy, fy] rfl rfl (by kernel_rfl) (by decide) (fun K hK => ?_)
    refine goes_ Tryd.func10 (by kernel_rfl) rfl #[.agg #[.slice A0_0 l0_0.length c0_0]] (by rfl) rfl rfl (by (try simp only [sD_, sE_, sF_]); rfl) ?_
    with_reducible refine (laws_toPressed.calls k _ _ l0_0 t460 _ ?side1 ?side2 A26.out).mono ?_
    (case side1 => repeat (first | exact (Kd.C_below HR0_0.out HB.out) | (with_reducible refine Kd.C_alloc ?_ _) | (with_reducible refine Kd.C_drewN ?_ _) | (with_reducible refine Kd.C_drew ?_)))
    (case side2 => exact HC0_0.out)
    rintro e w44 ⟨v461, rfl, ho0, hb⟩
    refine ⟨_, rfl, ?_⟩
    have n0_ := aM_ (Kd.R_elder' HO453.out (Kd.R_base ho0) hb)
    have n1_ := aM_ (Kd.R_elder' HO457.out (Kd.R_base ho0) hb)
    have n2_ := aM_ (Kd.R_lower (Kd.R_new' (Kd.R_new' ho0 (Kd.R_lt HO453.out)) (Kd.R_lt HO457.out)) (below_size HB.out))
    have n3_ := aM_ (blk_below BK449.out hb)
    have n4_ := aM_ (blk_below BK458.out hb)
    have n5_ := aM_ (below_step HB.out hb)
    clear HO453
    clear HO457
    clear BK449
    clear BK458
    clear HB
    have HO453 := n0_
    have HO457 := n1_
    have HO462 := n2_
    have BK449 := n3_
    have BK458 := n4_
    have HB := n5_
    clear n0_ n1_ n2_ n3_ n4_ n5_
    (try clear hb)
    (try clear hb2)
    (try clear hk)
    (try clear hi)
    (try clear ho0)
    obtain ⟨Ao45, co45, eo45⟩ := Kd.R_slice HO462.out
    (subst eo45)
    refine hK.out _ _ ⟨(blk_cell BK458.out 0).trans rfl, (blk_cell BK449.out 0).trans rfl⟩ (fun hHeld => ?_)
    clear hK K
    refine norm_ (a' := ?_) ?_ ?_; rotate_left; (show Act.put _ (some 24) _ = _; simp only [Act.put, sA_, sB_, sC_, i64_w, i32_w]; rfl)
    refine one_ (i := 3) (N := some 25) #[ty, ty, ty, ty, fy] rfl rfl (by kernel_rfl) (by decide) (fun K hK => ?_)
    refine goes_ Tryd.func12 (by kernel_rfl) rfl #[.agg #[.slice Ao39 t455.length co39], .agg #[.slice Ao45 t460.length co45]] (by rfl) rfl rfl (by (try simp only [sD_, sE_, sF_]); rfl) ?_
    with_reducible refine (laws_eqPressed.calls k _ _ t455 _ _ t460 true _ ?side1 ?side2 ?side3 ?side4 A27.out).mono ?_
    (case side1 => repeat (first | exact (Kd.R_reads' HO457.out).2.2 | (with_reducible refine Kd.C_alloc ?_ _) | (with_reducible refine Kd.C_drewN ?_ _) | (with_reducible refine Kd.C_drew ?_)))
    (case side2 => exact (Kd.R_reads' HO457.out).2.1)
    (case side3 => repeat (first | exact (Kd.R_reads' HO462.out).2.2 | (with_reducible refine Kd.C_alloc ?_ _) | (with_reducible refine Kd.C_drewN ?_ _) | (with_reducible refine Kd.C_drew ?_)))
    (case side4 => exact (Kd.R_reads' HO462.out).2.1)
    rintro e w46 ⟨rfl, hb⟩
    refine ⟨_, rfl, ?_⟩
    have n0_ := aM_ (Kd.R_below HO453.out hb)
    have n1_ := aM_ (Kd.R_below HO457.out hb)
    have n2_ := aM_ (Kd.R_below HO462.out hb)
    have n3_ := aM_ (blk_below BK449.out hb)
    have n4_ := aM_ (blk_below BK458.out hb)
    have n5_ := aM_ (below_step HB.out hb)
    clear HO453
    clear HO457
    clear HO462
    clear BK449
    clear BK458
    clear HB
    have HO453 := n0_
    have HO457 := n1_
    have HO462 := n2_
    have BK449 := n3_
    have BK458 := n4_
    have HB := n5_
    clear n0_ n1_ n2_ n3_ n4_ n5_
    (try clear hb)
    (try clear hb2)
    (try clear hk)
    (try clear hi)
    refine hK.out _ _ ⟨(blk_cell BK458.out 0).trans rfl, (blk_cell BK449.out 0).trans rfl⟩ (fun hHeld => ?_)
    clear hK K
    refine norm_ (a' := ?_) ?_ ?_; rotate_left; (show Act.put _ (some 25) _ = _; simp only [Act.put, sA_, sB_, sC_, i64_w, i32_w]; rfl)
    refine pure_ (i := 4) (N := some 26) (v := ?_) (a' := ?_) #[ty, ty, ty, ty, ty] rfl rfl (by kernel_rfl) (fun _ _ _ h => h) (Or.inl ⟨by rfl, ?_⟩) ?_ ?_; rotate_left; (intro w'; go_simp; with_reducible rfl); rotate_left; (simp only [Act.put, sA_, sB_, sC_, i64_w, i32_w]; rfl)
    refine done_ (by kernel_rfl) ?_
    try go_wp2
    go_ret
    exact ⟨by rfl, by exact HB.out⟩
   ·
    replace c28 := Bool.eq_false_iff.mpr c28
    subst c28
    have H1 : (some false) = some r := by rw [if_neg (show ¬ (false = true) by decide)] at H; exact H
    clear H
    have H := H1
    clear H1
    obtain rfl := Option.some.inj H
    go_enter Tryd.func3, Tryd.ntmps3
    try go_wp2_with (first | ((with_reducible refine gate_dst (N := 1) rfl ?_); refine box_event ?hg (N := 1) ?hd (cs := #[.slice A0_0 l0_0.length c0_0]) (t := 24) ?hr ?_; (case hd => rfl); (case hg => rfl); (case hr => (go_simp; done)); intro gb449 hg w47 hbox hb; have BK449 := aM_ (hbox); have GW449 := aM_ ((by rw [hg]; exact (below_size HB.out) : w.heap.size ≤ gb449)); have GE449 := GW449; replace HB := aM_ (below_step HB.out hb); clear hb hbox hg; have hcz48_0 : w47.cell? ⟨gb449, 0, none⟩ = some (.slice A0_0 l0_0.length c0_0) := (blk_cell BK449.out 0).trans rfl; have hfz48_0 := blk_frozen BK449.out 0) | ((with_reducible refine gate_callee (f := 8) rfl ?_); refine goesL_ (some 9) rfl rfl Tryd.func8 (by kernel_rfl) rfl #[.agg #[.slice A0_0 l0_0.length c0_0], .int .i64 1048576] rfl (by (try simp only [sD_, sE_, sF_]); rfl) ?_; (with_reducible refine (laws_szPressed.calls k _ _ l0_0 1048576 t450 _ ?side1 ?side2 A2.out).mono ?_); (case side1 => repeat (first | exact (Kd.C_below HR0_0.out HB.out) | (with_reducible refine Kd.C_alloc ?_ _) | (with_reducible refine Kd.C_drewN ?_ _) | (with_reducible refine Kd.C_drew ?_))); (case side2 => exact HC0_0.out); rintro e w49 ⟨rfl, hb⟩; refine ⟨_, rfl, ?_⟩; replace BK449 := aM_ (blk_below BK449.out hb); replace HB := aM_ (below_step HB.out hb); (try clear hb); (try clear hb2); (try clear hk); (try clear hi); have hcz50_0 : w49.cell? ⟨gb449, 0, none⟩ = some (.slice A0_0 l0_0.length c0_0) := (blk_cell BK449.out 0).trans rfl; have hfz50_0 := blk_frozen BK449.out 0) | ((with_reducible refine gate_callee (f := 10) rfl ?_); refine goesL_ (some 13) rfl rfl Tryd.func10 (by kernel_rfl) rfl #[.agg #[.slice A0_0 l0_0.length c0_0]] rfl (by (try simp only [sD_, sE_, sF_]); rfl) ?_; (with_reducible refine (laws_toPressed.calls k _ _ l0_0 t451 _ ?side1 ?side2 A7.out).mono ?_); (case side1 => repeat (first | exact (Kd.C_below HR0_0.out HB.out) | (with_reducible refine Kd.C_alloc ?_ _) | (with_reducible refine Kd.C_drewN ?_ _) | (with_reducible refine Kd.C_drew ?_))); (case side2 => exact HC0_0.out); rintro e w51 ⟨v452, rfl, ho0, hb⟩; refine ⟨_, rfl, ?_⟩; have HO453 := aM_ (Kd.R_lower ho0 (below_size HB.out)); replace BK449 := aM_ (blk_below BK449.out hb); replace HB := aM_ (below_step HB.out hb); (try clear hb); (try clear hb2); (try clear hk); (try clear hi); (try clear ho0); obtain ⟨Ao52, co52, eo52⟩ := Kd.R_slice HO453.out; subst eo52) | ((with_reducible refine gate_callee (f := 9) rfl ?_); refine goesL_ (some 14) rfl rfl Tryd.func9 (by kernel_rfl) rfl #[.agg #[.slice Ao52 t451.length co52]] rfl (by (try simp only [sD_, sE_, sF_]); rfl) ?_; (with_reducible refine (spec_IsPressed.calls k _ _ t451 t454 _ ?side1 ?side2 A8.out).mono ?_); (case side1 => repeat (first | exact (Kd.R_reads' HO453.out).2.2 | (with_reducible refine Kd.C_alloc ?_ _) | (with_reducible refine Kd.C_drewN ?_ _) | (with_reducible refine Kd.C_drew ?_))); (case side2 => exact (Kd.R_reads' HO453.out).2.1); rintro e w53 ⟨rfl, hb⟩; refine ⟨_, rfl, ?_⟩; replace HO453 := aM_ (Kd.R_below HO453.out hb); replace BK449 := aM_ (blk_below BK449.out hb); replace HB := aM_ (below_step HB.out hb); (try clear hb); (try clear hb2); (try clear hk); (try clear hi); have hcz54_0 : w53.cell? ⟨gb449, 0, none⟩ = some (.slice A0_0 l0_0.length c0_0) := (blk_cell BK449.out 0).trans rfl; have hfz54_0 := blk_frozen BK449.out 0) | ((with_reducible refine gate_callee (f := 10) rfl ?_); refine goesL_ (some 16) rfl rfl Tryd.func10 (by kernel_rfl) rfl #[.agg #[.slice A0_0 l0_0.length c0_0]] rfl (by (try simp only [sD_, sE_, sF_]); rfl) ?_; (with_reducible refine (laws_toPressed.calls k _ _ l0_0 t455 _ ?side1 ?side2 A9.out).mono ?_); (case side1 => repeat (first | exact (Kd.C_below HR0_0.out HB.out) | (with_reducible refine Kd.C_alloc ?_ _) | (with_reducible refine Kd.C_drewN ?_ _) | (with_reducible refine Kd.C_drew ?_))); (case side2 => exact HC0_0.out); rintro e w55 ⟨v456, rfl, ho0, hb⟩; refine ⟨_, rfl, ?_⟩; have HO457 := aM_ (Kd.R_lower (Kd.R_new' ho0 (Kd.R_lt HO453.out)) (below_size HB.out)); replace HO453 := aM_ (Kd.R_elder' HO453.out (Kd.R_base ho0) hb); replace BK449 := aM_ (blk_below BK449.out hb); replace HB := aM_ (below_step HB.out hb); (try clear hb); (try clear hb2); (try clear hk); (try clear hi); (try clear ho0)) | ((with_reducible refine gate_dst (N := 5) rfl ?_); refine box_event ?hg (N := 5) ?hd (cs := #[.slice none 0 0]) (t := 29) ?hr ?_; (case hd => rfl); (case hg => rfl); (case hr => (go_simp; done)); intro gb458 hg w56 hbox hb; replace HO453 := aM_ (Kd.R_below HO453.out hb); replace HO457 := aM_ (Kd.R_below HO457.out hb); have BK458 := aM_ (hbox); have GW458 := aM_ ((by rw [hg]; exact (below_size HB.out) : w.heap.size ≤ gb458)); have GE458 := GW458; replace HB := aM_ (below_step HB.out hb); have NB449_458 := aM_ ((by rw [hg]; exact Nat.ne_of_lt (blk_lt BK449.out) : gb449 ≠ gb458)); have NB458_449 := aM_ NB449_458.out.symm; replace BK449 := aM_ (blk_below BK449.out hb); clear hb hbox hg; obtain ⟨Ao57, co57, eo57⟩ := Kd.R_slice HO457.out; subst eo57; have hnb58 := NB458_449.out; have hnc58 := NB449_458.out; have hcz59_0 : w56.cell? ⟨gb458, 0, none⟩ = some (.slice none 0 0) := (blk_cell BK458.out 0).trans rfl; have hfz59_0 := blk_frozen BK458.out 0) | ((with_reducible refine gate_callee (f := 11) rfl ?_); refine goesL_ (some 18) rfl rfl Tryd.func11 (by kernel_rfl) rfl #[.agg #[.slice Ao57 t455.length co57]] rfl (by (try simp only [sD_, sE_, sF_]); rfl) ?_; (with_reducible refine (impl_IsPressed.calls k _ _ t455 t459 _ ?side1 ?side2 A10.out).mono ?_); (case side1 => refine (Kd.R_reads' (e := 56) (base := w.heap.size) (ok := fun k_ => (True ∧ some k_ ≠ (.slice Ao52 t451.length co52 : Value).ownBlock)) (n := t455.length) (c := co57) ?_).2.2; exact (by exact (Kd.R_mono (Kd.R_far (p := ⟨gb458, 0, none⟩) (Kd.R_types HO457.out BK458.out (by decide)) (fun _ hk => hk.2) (.slice Ao57 t455.length co57)) (fun _ h_ => h_.1)))); (case side2 => exact (Kd.R_reads' HO457.out).2.1); rintro e w60 ⟨rfl, hb⟩; refine ⟨_, rfl, ?_⟩; replace HO453 := aM_ (Kd.R_below (by exact (Kd.R_mono (Kd.R_far (p := ⟨gb458, 0, none⟩) (Kd.R_types HO453.out BK458.out (by decide)) (fun _ hk => hk.2) (.slice Ao57 t455.length co57)) (fun _ h_ => h_.1))) hb); replace HO457 := aM_ (Kd.R_below (by exact (Kd.R_mono (Kd.R_far (p := ⟨gb458, 0, none⟩) (Kd.R_types HO457.out BK458.out (by decide)) (fun _ hk => hk.2) (.slice Ao57 t455.length co57)) (fun _ h_ => h_.1))) hb); replace BK449 := aM_ (blk_below (g := gb449) (o := .cells #[.slice A0_0 l0_0.length c0_0] 24 (0, 0)) (by refine blk_far ?_ NB449_458.out _; exact BK449.out) hb); replace BK458 := aM_ (blk_below (g := gb458) (o := .cells #[.slice Ao57 t455.length co57] 29 (0, 0)) (by refine blk_put (cs := #[.slice none 0 0]) ?_ 0 _ rfl; exact BK458.out) hb); replace HB := aM_ (below_step (by repeat (first | (with_reducible first | exact HB.out | apply below_alloc | apply pw_below_drewN | apply below_drew1 | refine below_set ?_ GE449.out | refine below_set ?_ GE458.out) | exact HB.out)) hb); (try clear hb); (try clear hb2); (try clear hk); (try clear hi)))
    have n0_ := aM_ (Kd.R_drew HO453.out)
    have n1_ := aM_ (Kd.R_drew HO457.out)
    have n2_ := aM_ (blk_drew BK449.out)
    have n3_ := aM_ (blk_drew BK458.out)
    have n4_ := aM_ (below_drew1 HB.out)
    clear HO453
    clear HO457
    clear BK449
    clear BK458
    clear HB
    have HO453 := n0_
    have HO457 := n1_
    have BK449 := n2_
    have BK458 := n3_
    have HB := n4_
    clear n0_ n1_ n2_ n3_ n4_
    refine start_ (n := 5) (S := fun w' => w'.cell? ⟨gb458, 0, none⟩ = some (.slice Ao57 t455.length co57) ∧ w'.cell? ⟨gb449, 0, none⟩ = some (.slice A0_0 l0_0.length c0_0)) (ds := []) #[fy, fy, fy, fy, fy] (by kernel_rfl) rfl rfl ⟨(blk_cell BK458.out 0).trans rfl, (blk_cell BK449.out 0).trans rfl⟩ (fun hHeld => ?_)
    generalize w60.drew = w61 at HO453 HO457 BK449 BK458 HB hHeld ⊢
    refine take_ (i := 0) (N := some 22) (v := ?_) (a' := ?_) #[ty, fy, fy, fy, fy] rfl rfl (by kernel_rfl) (fun _ _ _ h => h) (Or.inl ⟨by rfl, ?_⟩) hHeld ?_ ?_; rotate_left; (rintro w' ⟨s0, s1⟩; go_simp; with_reducible rfl); rotate_left; (simp only [Act.put, sA_, sB_, sC_, i64_w, i32_w]; rfl)
    refine take_ (i := 1) (N := some 23) (v := ?_) (a' := ?_) #[ty, ty, fy, fy, fy] rfl rfl (by kernel_rfl) (fun _ _ _ h => h) (Or.inl ⟨by rfl, ?_⟩) hHeld ?_ ?_; rotate_left; (rintro w' ⟨s0, s1⟩; go_simp; with_reducible rfl); rotate_left; (simp only [Act.put, sA_, sB_, sC_, i64_w, i32_w]; rfl)
    refine one_ (i := 2) (N := some 24) #[ty, ty, ty, fy, fy] rfl rfl (by kernel_rfl) (by decide) (fun K hK => ?_)
    refine goes_ Tryd.func10 (by kernel_rfl) rfl #[.agg #[.slice A0_0 l0_0.length c0_0]] (by rfl) rfl rfl (by (try simp only [sD_, sE_, sF_]); rfl) ?_
    with_reducible refine (laws_toPressed.calls k _ _ l0_0 t460 _ ?side1 ?side2 A26.out).mono ?_
    (case side1 => repeat (first | exact (Kd.C_below HR0_0.out HB.out) | (with_reducible refine Kd.C_alloc ?_ _) | (with_reducible refine Kd.C_drewN ?_ _) | (with_reducible refine Kd.C_drew ?_)))
    (case side2 => exact HC0_0.out)
    rintro e w62 ⟨v461, rfl, ho0, hb⟩
    refine ⟨_, rfl, ?_⟩
    have n0_ := aM_ (Kd.R_elder' HO453.out (Kd.R_base ho0) hb)
    have n1_ := aM_ (Kd.R_elder' HO457.out (Kd.R_base ho0) hb)
    have n2_ := aM_ (Kd.R_lower (Kd.R_new' (Kd.R_new' ho0 (Kd.R_lt HO453.out)) (Kd.R_lt HO457.out)) (below_size HB.out))
    have n3_ := aM_ (blk_below BK449.out hb)
    have n4_ := aM_ (blk_below BK458.out hb)
    have n5_ := aM_ (below_step HB.out hb)
    clear HO453
    clear HO457
    clear BK449
    clear BK458
    clear HB
    have HO453 := n0_
    have HO457 := n1_
    have HO462 := n2_
    have BK449 := n3_
    have BK458 := n4_
    have HB := n5_
    clear n0_ n1_ n2_ n3_ n4_ n5_
    (try clear hb)
    (try clear hb2)
    (try clear hk)
    (try clear hi)
    (try clear ho0)
    obtain ⟨Ao63, co63, eo63⟩ := Kd.R_slice HO462.out
    (subst eo63)
    refine hK.out _ _ ⟨(blk_cell BK458.out 0).trans rfl, (blk_cell BK449.out 0).trans rfl⟩ (fun hHeld => ?_)
    clear hK K
    refine norm_ (a' := ?_) ?_ ?_; rotate_left; (show Act.put _ (some 24) _ = _; simp only [Act.put, sA_, sB_, sC_, i64_w, i32_w]; rfl)
    refine one_ (i := 3) (N := some 25) #[ty, ty, ty, ty, fy] rfl rfl (by kernel_rfl) (by decide) (fun K hK => ?_)
    refine goes_ Tryd.func12 (by kernel_rfl) rfl #[.agg #[.slice Ao57 t455.length co57], .agg #[.slice Ao63 t460.length co63]] (by rfl) rfl rfl (by (try simp only [sD_, sE_, sF_]); rfl) ?_
    with_reducible refine (laws_eqPressed.calls k _ _ t455 _ _ t460 false _ ?side1 ?side2 ?side3 ?side4 A27.out).mono ?_
    (case side1 => repeat (first | exact (Kd.R_reads' HO457.out).2.2 | (with_reducible refine Kd.C_alloc ?_ _) | (with_reducible refine Kd.C_drewN ?_ _) | (with_reducible refine Kd.C_drew ?_)))
    (case side2 => exact (Kd.R_reads' HO457.out).2.1)
    (case side3 => repeat (first | exact (Kd.R_reads' HO462.out).2.2 | (with_reducible refine Kd.C_alloc ?_ _) | (with_reducible refine Kd.C_drewN ?_ _) | (with_reducible refine Kd.C_drew ?_)))
    (case side4 => exact (Kd.R_reads' HO462.out).2.1)
    rintro e w64 ⟨rfl, hb⟩
    refine ⟨_, rfl, ?_⟩
    have n0_ := aM_ (Kd.R_below HO453.out hb)
    have n1_ := aM_ (Kd.R_below HO457.out hb)
    have n2_ := aM_ (Kd.R_below HO462.out hb)
    have n3_ := aM_ (blk_below BK449.out hb)
    have n4_ := aM_ (blk_below BK458.out hb)
    have n5_ := aM_ (below_step HB.out hb)
    clear HO453
    clear HO457
    clear HO462
    clear BK449
    clear BK458
    clear HB
    have HO453 := n0_
    have HO457 := n1_
    have HO462 := n2_
    have BK449 := n3_
    have BK458 := n4_
    have HB := n5_
    clear n0_ n1_ n2_ n3_ n4_ n5_
    (try clear hb)
    (try clear hb2)
    (try clear hk)
    (try clear hi)
    refine hK.out _ _ ⟨(blk_cell BK458.out 0).trans rfl, (blk_cell BK449.out 0).trans rfl⟩ (fun hHeld => ?_)
    clear hK K
    refine norm_ (a' := ?_) ?_ ?_; rotate_left; (show Act.put _ (some 25) _ = _; simp only [Act.put, sA_, sB_, sC_, i64_w, i32_w]; rfl)
    refine pure_ (i := 4) (N := some 26) (v := ?_) (a' := ?_) #[ty, ty, ty, ty, ty] rfl rfl (by kernel_rfl) (fun _ _ _ h => h) (Or.inl ⟨by rfl, ?_⟩) ?_ ?_; rotate_left; (intro w'; go_simp; with_reducible rfl); rotate_left; (simp only [Act.put, sA_, sB_, sC_, i64_w, i32_w]; rfl)
    refine done_ (by kernel_rfl) ?_
    try go_wp2
    go_ret
    exact ⟨by rfl, by exact HB.out⟩
def laws_FnExactIsPressed.Pure : Prop := ∀ (l0_0 : List S61), l0_0.length ≤ 9223372036854775807 → (∀ x ∈ l0_0, x.f0.size ≤ 9223372036854775807) → ∃ k, laws_FnExactIsPressed.f k l0_0 = some true
theorem laws_FnExactIsPressed.walk (P : laws_FnExactIsPressed.Pure) (w : World) (A0 : Option Addr) (c0 : Nat) (l0_0 : List S61) (hr0 : Kd.C k61 w A0 l0_0.length l0_0) (hc0 : l0_0.length ≤ c0) (hs0 : ∀ x ∈ l0_0, x.f0.size ≤ 9223372036854775807) :
  Calls Tryd.prog 3 #[.agg #[.slice A0 l0_0.length c0]] w fun e w' => e = .returned (.bool true) ∧ Below w.heap.size w w' := by
 obtain ⟨k, h⟩ := P l0_0 hr0.2.1 hs0
 refine (laws_FnExactIsPressed.calls k _ _ l0_0 true w hr0 hc0 h).mono ?_
 rintro e w' ⟨rfl, hd⟩
 exact ⟨rfl, hd⟩
end Go.Proofs.YtfhffcefpnkllaaDoor.P
namespace Go.Proofs.YtfhffcefpnkllaaDoor.Pure
open Go.RowKit Go.Proofs.YtfhffcefpnkllaaDoor.P Go.Proofs.YtfhffcefpnkllaaDoor.M Go.Proofs.YtfhffcefpnkllaaDoorW.PrintWords Go.Proofs.YtfhffcefpnkllaaDoorW.PrintLast Go.Proofs.YtfhffcefpnkllaaDoorW.PrintMore
open Go.Proofs.YtfhffcefpnkllaaDoor.L
namespace IsPressed
theorem both (N : List Bd) (hb : ∀ b ∈ N, b.f0.size ≤ 1000000000) : ∃ r : Bool, Ev (fun k => spec_IsPressed.f k N) r ∧ Ev (fun k => impl_IsPressed.f k N) r := by
 unfold spec_IsPressed.f impl_IsPressed.f
 rcases open_both N hb with ⟨ws, h, rfl, hl, e1, e2⟩ | ⟨e1, e2⟩
 ·
  exact ⟨true, Ev.bind e1 (Ev.now _), Ev.bind e2 (Ev.now _)⟩
 ·
  exact ⟨false, Ev.bind e1 (Ev.now _), Ev.bind e2 (Ev.now _)⟩
end IsPressed
theorem FnExactIsPressed : laws_FnExactIsPressed.Pure := by
 intro l hl hs
 obtain ⟨v, v1, v2⟩ := szP_ev l hl hs
 refine Ev.rounds ?_
 unfold laws_FnExactIsPressed.f
 refine Ev.bind v1 ?_
 by_cases h0 : v < 0
 ·
  exact Ev.ifT h0 (Ev.now _)
 ·
  obtain ⟨hlen, hsm⟩ := v2 (by omega)
  obtain ⟨r, h1, h2⟩ := IsPressed.both (toB l) (toB_small hsm)
  have he := eqPressed_ev (toB l) (by rw [toB_length]; omega)
  refine Ev.ifF h0 (Ev.bind (toPressed_ev l hlen) (Ev.bind h1 (Ev.bind (toPressed_ev l hlen) (Ev.bind h2 ?_))))
  exact Ev.ifF (by simp) (Ev.bind (toPressed_ev l hlen) (Ev.bind he (Ev.ifT rfl (Ev.now _))))
end Go.Proofs.YtfhffcefpnkllaaDoor.Pure
namespace Go.Proofs.YtfhffcefpnkllaaDoor.fnExactIsPressed
open Go.ChangeShapes Go.WideShapes Go.ChangeAt Go.RowKit Go.Proofs.YtfhffcefpnkllaaDoor.P
open Go.ChangeMaps (open_string shut_string)
def laidL : List (String × DataW Unit) := [("unicode/utf8.acceptRanges", Rows.laid_unicode_utf8_acceptRanges), ("unicode/utf8.first", Rows.laid_unicode_utf8_first)]
theorem own : ownKnob Tryd.prog.godebug = none := by kernel_rfl
theorem laidOut : laidOutB Tryd.prog = true := by kernel_rfl
theorem lifted (os : Os) (started : os.Started) (H : Type) (enc : TypeId × Value → H) :
    ReturnsInHanded {} Tryd.checked os 3 .any (fun w args => (Rows.fnExactIsPressedSpec.pre enc Tryd.prog Tryd.f3 [] false w args ∧ laidMetH Tryd.prog laidL w) ∧ sizedMet enc Tryd.prog Tryd.f3 (OpenSpec.ofChange Rows.fnExactIsPressedSpec) false w args) (Rows.fnExactIsPressedSpec.post enc Tryd.prog Tryd.f3 false true false false) := by
  refine returnsInHanded_of_change_and (C := Tryd.checked) (X := fun w _ => laidMetH Tryd.prog laidL w) (fun _ _ _ hh h => h.of_heap hh) own started (by kernel_rfl) Tryd.func3
    (ChangeSpec.witness_shaped (enc := enc) (C := Tryd.checked) (os := os) (X := fun w _ => laidMetH Tryd.prog laidL w) false (World.laidAll Tryd.prog os laidL) #[.agg #[.slice none 0 0]] 8 (World.laidAll_os _ _ _) (World.shaped_of_ZipB (by kernel_rfl) (by kernel_rfl)) (by kernel_rfl) (by kernel_rfl) (by kernel_rfl)
      (by rw [MakeChecks.laidMetH_plain _ _ _ (by kernel_rfl)]; exact laidMet_laidAll _ (by kernel_rfl) (by kernel_rfl))) ?_
  intro W base args ds gs before hval0 hW hcnd hsz0 hL_ _
  have hsz : (DataW.weightsEach Tryd.prog (Tryd.f3.params.toList ++ Rows.fnExactIsPressedSpec.plain.varTypes Tryd.prog) (ds ++ gs)).all (· ≤ reachBytes) = true := hsz0
  have hval : ∀ (j : Nat) t v, Tryd.f3.params[j]? = some t → args[j]? = some v → Value.okWide Tryd.prog W .any base t v := hval0
  have hW' := hW
  obtain ⟨p, q, hA0, hV, rfl, hfz, hnd⟩ := hW
  have hA : DataW.TrodAll enc Tryd.prog W 0 (fun _ => true) true Tryd.f3.params.toList args.toList ds p := hA0
  rw [Tryd.params3] at hA hval hsz
  obtain ⟨v0, vs0, d0, ds0, p0, q0, hargs, rfl, rfl, h0, r0⟩ := trodAll_cons hA
  obtain ⟨rfl, rfl, rfl⟩ := trodAll_nil r0
  obtain rfl : args = #[v0] := by cases args; simp_all
  obtain ⟨rfl, rfl⟩ := trodVars_none hV
  have k0 := h0
  have lt0 : ∀ x ∈ p0, x.block < W.heap.size := by obtain ⟨m, hm⟩ := k0; exact DataW.trod_lt m _ _ _ hm
  obtain ⟨A0, c0, l0, ev0, hc0, hr0, hs0⟩ := OPr.pressed (hval 0 24 v0 rfl rfl) h0
  subst ev0
  clear hA0 hval0 hsz0 hsz
  refine (laws_FnExactIsPressed.walk Pure.FnExactIsPressed W A0 c0 l0 hr0 hc0 hs0).mono fun e W' ⟨he, bel⟩ => ?_
  subst he
  exact ⟨_, rfl, _, _, _, [], _, [], hW', trodAll_mk1 (shut_bool Tryd.underlying4 _), (trodAll_cons_mk (Below.trod laidOut (by kernel_rfl) (of_decide_eq_true (by kernel_rfl)) k0 bel lt0) trodAll_mk0), rfl, bel.frame _, fun h => by cases h⟩
theorem over : Rows.fnExactIsPressedRow.holds Tryd.pinned (OpenSpec.ofChange Rows.fnExactIsPressedSpec) :=
  OpenClaim.holds_of_wide 3 Tryd.f3 rfl rfl rfl rfl rfl rfl rfl ⟨rfl, rfl, rfl, rfl, rfl⟩ rfl rfl rfl rfl rfl (by kernel_rfl) Tryd.func3 (by kernel_rfl)
    (of_decide_eq_true (by kernel_rfl)) (by unfold Func.isWrapper; first | (rw [if_pos (by decide +kernel)]; kernel_rfl) | (rw [if_neg (by decide +kernel)]; exact ⟨rfl, rfl⟩))
    (fun os started H enc _ => lifted os started H enc)
theorem proved : Rows.FnExactIsPressedSaid := over
end Go.Proofs.YtfhffcefpnkllaaDoor.fnExactIsPressed
namespace Go.Proofs.YtfhffcefpnkllaaDoor
theorem fnExactIsPressed_holds : Rows.FnExactIsPressedSaid := fnExactIsPressed.proved
theorem fnExactIsPressed_card : Rows.FnExactIsPressedCardSaid :=
  Claim7.holds_tied_plain_at .later [] [.data, .pinned] true (true, "97b29d604ec60663e25153da0d9bc01aba1077f8cce9963c8e9a0e4698d57707") false
    fnExactIsPressed_holds (fun _ h => by cases h) (by kernel_rfl) (fun _ h => by cases h) fnExactIsPressed_row_tie rfl ⟨rfl, rfl⟩ (by kernel_rfl) rfl
    (fun f fn hf hfn => by
      obtain rfl : f = 3 := Option.some.inj ((show Tryd.prog.funcNamed "loop.example/g01243/laws.FnExactIsPressed" = some 3 by kernel_rfl).symm.trans hf) |>.symm
      obtain rfl : fn = Tryd.f3 := (Option.some.inj (Tryd.func3.symm.trans hfn)).symm
      exact ⟨by kernel_rfl, fun j t ht => by
        rw [Tryd.params3] at ht
        have hm : t ∈ [24] := by simpa using Array.mem_of_getElem? ht
        have hall : ([24].all fun u => !Tryd.prog.wantsStandIn u) = true := by kernel_rfl
        exact (show Tryd.prog.wantsStandIn t = false by simpa using List.all_eq_true.1 hall t hm)⟩)
    (by kernel_rfl)
end Go.Proofs.YtfhffcefpnkllaaDoor
