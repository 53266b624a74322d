/-
  Part 5 of the proof that FnExactMeanUnique returns true for every input: the functions that it reaches, each with its contract, and the law.
  Conditions: those of the given statement, no others.
-/
import Derived.Test.YtpgobnhklnglhaaGreatDoorCFnExactMeanUniqueW0
import Derived.Lib.SlicesCompact
import Derived.Test.YtpgobnhklnglhaaGreatDoorRows
import Derived.WalkKit
import Derived.ProofKit
import Derived.OpenShut
import Derived.ShutString
import Derived.ChangeOld
import Derived.Below
import Derived.SizedLaws
import Derived.Lay
import Derived.LaidOnce
import Derived.SevenTiedAt
import Derived.Test.YtpgobnhklnglhaaGreatDoorCards
import Derived.Test.YtpgobnhklnglhaaGreatDoorTie
import Derived.Test.YtpgobnhklnglhaaGreatDoorCFnExactMeanUnique0
import Derived.Test.YtpgobnhklnglhaaGreatDoorCFnExactMeanUnique3
import Derived.Test.YtpgobnhklnglhaaGreatDoorCFnExactMeanUnique2
import Derived.Test.YtpgobnhklnglhaaGreatDoorCFnExactMeanUnique1
set_option linter.unusedVariables false
set_option linter.unusedSimpArgs false
namespace Go.Proofs.YtpgobnhklnglhaaGreatDoor.P
open Go.RowKit Go.Proofs.YtpgobnhklnglhaaGreatDoorW.PrintWords Go.Proofs.YtpgobnhklnglhaaGreatDoorW.PrintLast Go.Proofs.YtpgobnhklnglhaaGreatDoorW.PrintMore
attribute [local go_sem] max2_int min2_int max_two min_two max_three min_three max_four min_four
set_option linter.unusedVariables false
set_option linter.unusedSimpArgs false
def laws_FnExactMeanUnique.j0 : Nat → Bool → List (S67) → List (S64) → Option (Bool)
 | 0, _, _, _ => none
 | k + 1, x35, x449000, x461000 => if x35 = true then (some false) else ((laws_toTrie.f k x449000).bind fun t466 => ((laws_eqTrie.f k x461000 t466).bind fun t469 => (if t469 = true then (some true) else (some false))))
def laws_FnExactMeanUnique.f (k : Nat) (l0_0 : List (S67)) : Option (Bool) := (laws_szTrie.f l0_0 1048576).bind fun t449 => (if t449 < 0 then (some true) else ((laws_toTrie.f k l0_0).bind fun t450 => ((spec_MeanUnique.f k t450).bind fun bt453 => ((laws_toTrie.f k l0_0).bind fun t457 => ((impl_MeanUnique.f k t457).bind fun bt461 => ((laws_eqIntA2.f bt461.1 bt461.2.1 bt453.1 bt453.2.1).bind fun t465 => (if t465 = true then (laws_FnExactMeanUnique.j0 k (bt461.2.2 != bt453.2.2) l0_0 t457) else (laws_FnExactMeanUnique.j0 k true l0_0 t457))))))))
theorem laws_FnExactMeanUnique.mono_l : ∀ k, (∀ y0 y1 y2, LeO (laws_FnExactMeanUnique.j0 k y0 y1 y2) (laws_FnExactMeanUnique.j0 (k + 1) y0 y1 y2))
 | 0 => fun _ _ _ r h => by simp [laws_FnExactMeanUnique.j0] at h
 | k + 1 => by
  have ih0 := laws_FnExactMeanUnique.mono_l k
  ·
   intro y0 y1 y2
   unfold laws_FnExactMeanUnique.j0
   repeat' first
   | (with_reducible exact ih0 _ _ _)
   | (with_reducible exact impl_MeanUnique.mono _ _)
   | (with_reducible exact laws_eqTrie.mono _ _ _)
   | (with_reducible exact laws_toTrie.mono _ _)
   | (with_reducible exact spec_MeanUnique.mono _ _)
   | (with_reducible exact LeO.refl _)
   | (with_reducible exact LeO.none _)
   | (with_reducible refine LeO.ite ?_ ?_)
   | (with_reducible refine LeO.bind ?_ (fun _ => ?_))
   | exact ih0 _ _ _
   | exact impl_MeanUnique.mono _ _
   | exact laws_eqTrie.mono _ _ _
   | exact laws_toTrie.mono _ _
   | exact spec_MeanUnique.mono _ _
   | exact LeO.none _
   | refine LeO.ite ?_ ?_
   | refine LeO.bind ?_ (fun _ => ?_)
theorem laws_FnExactMeanUnique.mono : ∀ a0 k, LeO (laws_FnExactMeanUnique.f k a0) (laws_FnExactMeanUnique.f (k + 1) a0) := by
 intro a0 k
 have ih0 := laws_FnExactMeanUnique.mono_l k
 unfold laws_FnExactMeanUnique.f
 repeat' first
   | (with_reducible exact ih0 _ _ _)
   | (with_reducible exact impl_MeanUnique.mono _ _)
   | (with_reducible exact laws_eqTrie.mono _ _ _)
   | (with_reducible exact laws_toTrie.mono _ _)
   | (with_reducible exact spec_MeanUnique.mono _ _)
   | (with_reducible exact LeO.refl _)
   | (with_reducible exact LeO.none _)
   | (with_reducible refine LeO.ite ?_ ?_)
   | (with_reducible refine LeO.bind ?_ (fun _ => ?_))
   | exact ih0 _ _ _
   | exact impl_MeanUnique.mono _ _
   | exact laws_eqTrie.mono _ _ _
   | exact laws_toTrie.mono _ _
   | exact spec_MeanUnique.mono _ _
   | exact LeO.none _
   | refine LeO.ite ?_ ?_
   | refine LeO.bind ?_ (fun _ => ?_)
set_option maxHeartbeats 8000000 in
set_option maxRecDepth 100000 in
theorem laws_FnExactMeanUnique.calls (k : Nat) (A0_0 : Option Addr) (c0_0 : Nat) (l0_0 : List (S67)) (r : Bool) (w : World) (hr0_0 : Kd.C k67 w A0_0 l0_0.length l0_0) (hc0_0 : l0_0.length ≤ c0_0) (h : laws_FnExactMeanUnique.f k l0_0 = some r) :
  Calls Tryz.prog 4 #[.agg #[.slice A0_0 l0_0.length c0_0]] w fun e w' => e = .returned (.bool r) ∧ Below w.heap.size w w' := by
 have hu24 := Tryz.underlying24
 have hu38 := Tryz.underlying38
 have hu31 := Tryz.underlying31
 have HR0_0 := Aside0.mk hr0_0
 have HC0_0 := Aside0.mk hc0_0
 clear hr0_0 hc0_0
 have HB := Aside0.mk (Below.refl w.heap.size w)
 have H : ((laws_szTrie.f l0_0 1048576).bind fun t449 => (if t449 < 0 then (some true) else ((laws_toTrie.f k l0_0).bind fun t450 => ((spec_MeanUnique.f k t450).bind fun bt453 => ((laws_toTrie.f k l0_0).bind fun t457 => ((impl_MeanUnique.f k t457).bind fun bt461 => ((laws_eqIntA2.f bt461.1 bt461.2.1 bt453.1 bt453.2.1).bind fun t465 => (if t465 = true then (laws_FnExactMeanUnique.j0 k (bt461.2.2 != bt453.2.2) l0_0 t457) else (laws_FnExactMeanUnique.j0 k true l0_0 t457))))))))) = some r := h
 clear h
 replace H := Option.bind_eq_some_iff.mp H
 obtain ⟨t449, A20, H⟩ := H
 replace H : (if t449 < 0 then (some true) else ((laws_toTrie.f k l0_0).bind fun t450 => ((spec_MeanUnique.f k t450).bind fun bt453 => ((laws_toTrie.f k l0_0).bind fun t457 => ((impl_MeanUnique.f k t457).bind fun bt461 => ((laws_eqIntA2.f bt461.1 bt461.2.1 bt453.1 bt453.2.1).bind fun t465 => (if t465 = true then (laws_FnExactMeanUnique.j0 k (bt461.2.2 != bt453.2.2) l0_0 t457) else (laws_FnExactMeanUnique.j0 k true l0_0 t457)))))))) = some r := H
 have A2 := Aside0.mk A20
 clear A20
 by_cases c3 : t449 < 0
 ·
  rw [if_pos c3] at H
  have c3b0 : decide (t449 < 0) = true := decide_eq_true c3
  clear c3
  obtain rfl := Option.some.inj H
  go_enter Tryz.func4, Tryz.ntmps4
  go_wp2_with (first | ((with_reducible refine gate_dst (N := 1) rfl ?_); refine box_event ?hg (N := 1) ?hd (cs := #[.slice A0_0 l0_0.length c0_0]) (t := 24) ?hr ?_; (case hd => rfl); (case hg => rfl); (case hr => first | (go_simp; done) | (go_simp; rfl)); intro gb448 hg w4 hbox hb; have n0_ := Aside0.mk (below_step (by repeat (first | (with_reducible first | exact HB.out | apply below_alloc | apply pw_below_drewN | apply below_drew1) | exact HB.out)) hb); have n1_ := Aside0.mk (hbox); have n2_ := Aside0.mk ((by rw [hg]; exact (below_size (by repeat (first | (with_reducible first | exact HB.out | apply below_alloc | apply pw_below_drewN | apply below_drew1) | exact HB.out))) : w.heap.size ≤ gb448)); have n3_ := Aside0.mk ((by rw [hg]; exact (below_size (by repeat (first | (with_reducible first | exact HB.out | apply below_alloc | apply pw_below_drewN | apply below_drew1) | exact HB.out))) : w.heap.size ≤ gb448)); clear HB; have HB := n0_; have BK448 := n1_; have GW448 := n2_; have GE448 := n3_; clear n0_ n1_ n2_ n3_; clear hb hbox hg; have hcz5_0 : w4.cell? ⟨gb448, 0, none⟩ = some (.slice A0_0 l0_0.length c0_0) := (blk_cell BK448.out 0).trans rfl; have hfz5_0 := blk_frozen BK448.out 0) | ((with_reducible refine gate_callee (f := 6) rfl ?_); refine goesL_ (some 11) rfl rfl Tryz.func6 (by kernel_rfl) rfl #[.agg #[.slice A0_0 l0_0.length c0_0], .int .i64 1048576] rfl (by (try simp only [List.map_toArray, List.map_cons, List.map_nil]); first | done | rfl | (simp only [List.length_drop, List.length_take]; rfl)) ?_; (with_reducible refine (laws_szTrie.calls _ _ l0_0 1048576 t449 _ ?side1 ?side2 A2.out).mono ?_); (case side1 => repeat (first | exact (Kd.C_below HR0_0.out HB.out) | (with_reducible refine Kd.C_alloc ?_ _) | (with_reducible refine Kd.C_drewN ?_ _) | (with_reducible refine Kd.C_drew ?_))); (case side2 => exact HC0_0.out); rintro e w6 ⟨rfl, hb⟩; refine ⟨_, rfl, ?_⟩; have n0_ := Aside0.mk (blk_below (g := gb448) (o := .cells #[.slice A0_0 l0_0.length c0_0] 24 (0, 0)) (by (with_reducible repeat (first | refine blk_drewN ?_ _ | refine blk_drew ?_ | refine blk_alloc ?_ _)); exact BK448.out) hb); have n1_ := Aside0.mk (below_step (by repeat (first | (with_reducible first | exact HB.out | apply below_alloc | apply pw_below_drewN | apply below_drew1 | refine below_set ?_ GE448.out) | exact HB.out)) hb); clear BK448; clear HB; have BK448 := n0_; have HB := n1_; clear n0_ n1_; (try clear hb); (try clear hb2); (try clear hk); (try clear hi)))
  go_ret
  exact ⟨by first | rfl | (simp [errW_none, errW_some] <;> rfl) | (simp [*, errW_none, errW_some] <;> rfl), by repeat (first | (with_reducible first | exact HB.out | apply below_alloc | apply pw_below_drewN | apply below_drew1 | refine below_set ?_ GE448.out) | exact HB.out)⟩
 ·
  rw [if_neg c3] at H
  have c3b0 : decide (t449 < 0) = false := decide_eq_false c3
  clear c3
  replace H := Option.bind_eq_some_iff.mp H
  obtain ⟨t450, A70, H⟩ := H
  replace H : ((spec_MeanUnique.f k t450).bind fun bt453 => ((laws_toTrie.f k l0_0).bind fun t457 => ((impl_MeanUnique.f k t457).bind fun bt461 => ((laws_eqIntA2.f bt461.1 bt461.2.1 bt453.1 bt453.2.1).bind fun t465 => (if t465 = true then (laws_FnExactMeanUnique.j0 k (bt461.2.2 != bt453.2.2) l0_0 t457) else (laws_FnExactMeanUnique.j0 k true l0_0 t457)))))) = some r := H
  have A7 := Aside0.mk A70
  clear A70
  replace H := Option.bind_eq_some_iff.mp H
  obtain ⟨⟨t453, t454, t455⟩, A80, H⟩ := H
  replace H : ((laws_toTrie.f k l0_0).bind fun t457 => ((impl_MeanUnique.f k t457).bind fun bt461 => ((laws_eqIntA2.f bt461.1 bt461.2.1 t453 t454).bind fun t465 => (if t465 = true then (laws_FnExactMeanUnique.j0 k (bt461.2.2 != t455) l0_0 t457) else (laws_FnExactMeanUnique.j0 k true l0_0 t457))))) = some r := H
  have A8 := Aside0.mk A80
  clear A80
  replace H := Option.bind_eq_some_iff.mp H
  obtain ⟨t457, A90, H⟩ := H
  replace H : ((impl_MeanUnique.f k t457).bind fun bt461 => ((laws_eqIntA2.f bt461.1 bt461.2.1 t453 t454).bind fun t465 => (if t465 = true then (laws_FnExactMeanUnique.j0 k (bt461.2.2 != t455) l0_0 t457) else (laws_FnExactMeanUnique.j0 k true l0_0 t457)))) = some r := H
  have A9 := Aside0.mk A90
  clear A90
  replace H := Option.bind_eq_some_iff.mp H
  obtain ⟨⟨t461, t462, t463⟩, A100, H⟩ := H
  replace H : ((laws_eqIntA2.f t461 t462 t453 t454).bind fun t465 => (if t465 = true then (laws_FnExactMeanUnique.j0 k (t463 != t455) l0_0 t457) else (laws_FnExactMeanUnique.j0 k true l0_0 t457))) = some r := H
  have A10 := Aside0.mk A100
  clear A100
  have HC11 := Aside0.mk H
  clear H
  go_enter Tryz.func4, Tryz.ntmps4
  go_upto_region 8 with (first | ((with_reducible refine gate_dst (N := 1) rfl ?_); refine box_event ?hg (N := 1) ?hd (cs := #[.slice A0_0 l0_0.length c0_0]) (t := 24) ?hr ?_; (case hd => rfl); (case hg => rfl); (case hr => first | (go_simp; done) | (go_simp; rfl)); intro gb448 hg w12 hbox hb; have n0_ := Aside0.mk (below_step (by repeat (first | (with_reducible first | exact HB.out | apply below_alloc | apply pw_below_drewN | apply below_drew1) | exact HB.out)) hb); have n1_ := Aside0.mk (hbox); have n2_ := Aside0.mk ((by rw [hg]; exact (below_size (by repeat (first | (with_reducible first | exact HB.out | apply below_alloc | apply pw_below_drewN | apply below_drew1) | exact HB.out))) : w.heap.size ≤ gb448)); have n3_ := Aside0.mk ((by rw [hg]; exact (below_size (by repeat (first | (with_reducible first | exact HB.out | apply below_alloc | apply pw_below_drewN | apply below_drew1) | exact HB.out))) : w.heap.size ≤ gb448)); clear HB; have HB := n0_; have BK448 := n1_; have GW448 := n2_; have GE448 := n3_; clear n0_ n1_ n2_ n3_; clear hb hbox hg; have hcz13_0 : w12.cell? ⟨gb448, 0, none⟩ = some (.slice A0_0 l0_0.length c0_0) := (blk_cell BK448.out 0).trans rfl; have hfz13_0 := blk_frozen BK448.out 0) | ((with_reducible refine gate_callee (f := 6) rfl ?_); refine goesL_ (some 11) rfl rfl Tryz.func6 (by kernel_rfl) rfl #[.agg #[.slice A0_0 l0_0.length c0_0], .int .i64 1048576] rfl (by (try simp only [List.map_toArray, List.map_cons, List.map_nil]); first | done | rfl | (simp only [List.length_drop, List.length_take]; rfl)) ?_; (with_reducible refine (laws_szTrie.calls _ _ l0_0 1048576 t449 _ ?side1 ?side2 A2.out).mono ?_); (case side1 => repeat (first | exact (Kd.C_below HR0_0.out HB.out) | (with_reducible refine Kd.C_alloc ?_ _) | (with_reducible refine Kd.C_drewN ?_ _) | (with_reducible refine Kd.C_drew ?_))); (case side2 => exact HC0_0.out); rintro e w14 ⟨rfl, hb⟩; refine ⟨_, rfl, ?_⟩; have n0_ := Aside0.mk (blk_below (g := gb448) (o := .cells #[.slice A0_0 l0_0.length c0_0] 24 (0, 0)) (by (with_reducible repeat (first | refine blk_drewN ?_ _ | refine blk_drew ?_ | refine blk_alloc ?_ _)); exact BK448.out) hb); have n1_ := Aside0.mk (below_step (by repeat (first | (with_reducible first | exact HB.out | apply below_alloc | apply pw_below_drewN | apply below_drew1 | refine below_set ?_ GE448.out) | exact HB.out)) hb); clear BK448; clear HB; have BK448 := n0_; have HB := n1_; clear n0_ n1_; (try clear hb); (try clear hb2); (try clear hk); (try clear hi); have hcz15_0 : w14.cell? ⟨gb448, 0, none⟩ = some (.slice A0_0 l0_0.length c0_0) := (blk_cell BK448.out 0).trans rfl; have hfz15_0 := blk_frozen BK448.out 0) | ((with_reducible refine gate_callee (f := 8) rfl ?_); refine goesL_ (some 16) rfl rfl Tryz.func8 (by kernel_rfl) rfl #[.agg #[.slice A0_0 l0_0.length c0_0]] rfl (by (try simp only [List.map_toArray, List.map_cons, List.map_nil]); first | done | rfl | (simp only [List.length_drop, List.length_take]; rfl)) ?_; (with_reducible refine (laws_toTrie.calls k _ _ l0_0 t450 _ ?side1 ?side2 A7.out).mono ?_); (case side1 => repeat (first | exact (Kd.C_below HR0_0.out HB.out) | (with_reducible refine Kd.C_alloc ?_ _) | (with_reducible refine Kd.C_drewN ?_ _) | (with_reducible refine Kd.C_drew ?_))); (case side2 => exact HC0_0.out); rintro e w16 ⟨v451, rfl, ho0, hb⟩; refine ⟨_, rfl, ?_⟩; have n0_ := Aside0.mk (Kd.R_lower ho0 (below_size (by repeat (first | (with_reducible first | exact HB.out | apply below_alloc | apply pw_below_drewN | apply below_drew1 | refine below_set ?_ GE448.out) | exact HB.out)))); have n1_ := Aside0.mk (blk_below (g := gb448) (o := .cells #[.slice A0_0 l0_0.length c0_0] 24 (0, 0)) (by (with_reducible repeat (first | refine blk_drewN ?_ _ | refine blk_drew ?_ | refine blk_alloc ?_ _)); exact BK448.out) hb); have n2_ := Aside0.mk (below_step (by repeat (first | (with_reducible first | exact HB.out | apply below_alloc | apply pw_below_drewN | apply below_drew1 | refine below_set ?_ GE448.out) | exact HB.out)) hb); clear BK448; clear HB; have HO452 := n0_; have BK448 := n1_; have HB := n2_; clear n0_ n1_ n2_; (try clear hb); (try clear hb2); (try clear hk); (try clear hi); (try clear ho0); obtain ⟨Ao17, co17, eo17⟩ := Kd.R_slice HO452.out; subst eo17) | ((with_reducible refine gate_callee (f := 15) rfl ?_); refine goesL_ (some 17) rfl rfl Tryz.func15 (by kernel_rfl) rfl #[.agg #[.slice Ao17 t450.length co17]] rfl (by (try simp only [List.map_toArray, List.map_cons, List.map_nil]); first | done | rfl | (simp only [List.length_drop, List.length_take]; rfl)) ?_; (with_reducible refine (spec_MeanUnique.calls k _ _ t450 t453 t454 t455 _ ?side1 ?side2 A8.out).mono ?_); (case side1 => repeat (first | exact (Kd.R_reads' HO452.out).2.2 | (with_reducible refine Kd.C_alloc ?_ _) | (with_reducible refine Kd.C_drewN ?_ _) | (with_reducible refine Kd.C_drew ?_))); (case side2 => exact (Kd.R_reads' HO452.out).2.1); rintro e w18 ⟨rfl, hb⟩; refine ⟨_, rfl, ?_⟩; have n0_ := Aside0.mk (Kd.R_below (by (with_reducible repeat (first | apply Kd.R_alloc | apply Kd.R_drewN | apply Kd.R_drew)); exact HO452.out) hb); have n1_ := Aside0.mk (blk_below (g := gb448) (o := .cells #[.slice A0_0 l0_0.length c0_0] 24 (0, 0)) (by (with_reducible repeat (first | refine blk_drewN ?_ _ | refine blk_drew ?_ | refine blk_alloc ?_ _)); exact BK448.out) hb); have n2_ := Aside0.mk (below_step (by repeat (first | (with_reducible first | exact HB.out | apply below_alloc | apply pw_below_drewN | apply below_drew1 | refine below_set ?_ GE448.out) | exact HB.out)) hb); clear HO452; clear BK448; clear HB; have HO452 := n0_; have BK448 := n1_; have HB := n2_; clear n0_ n1_ n2_; (try clear hb); (try clear hb2); (try clear hk); (try clear hi)) | ((with_reducible refine gate_dst (N := 4) rfl ?_); refine box_event ?hg (N := 4) ?hd (cs := #[.int .i64 0, .int .i64 0]) (t := 38) ?hr ?_; (case hd => rfl); (case hg => rfl); (case hr => first | (go_simp; done) | (go_simp; rfl)); intro gb456 hg w19 hbox hb; have n0_ := Aside0.mk (Kd.R_below (by (with_reducible repeat (first | apply Kd.R_alloc | apply Kd.R_drewN | apply Kd.R_drew)); exact HO452.out) hb); have n1_ := Aside0.mk (blk_below (g := gb448) (o := .cells #[.slice A0_0 l0_0.length c0_0] 24 (0, 0)) (by (with_reducible repeat (first | refine blk_drewN ?_ _ | refine blk_drew ?_ | refine blk_alloc ?_ _)); exact BK448.out) hb); have n2_ := Aside0.mk (below_step (by repeat (first | (with_reducible first | exact HB.out | apply below_alloc | apply pw_below_drewN | apply below_drew1 | refine below_set ?_ GE448.out) | exact HB.out)) hb); have n3_ := Aside0.mk (hbox); have n4_ := Aside0.mk ((by rw [hg]; exact (below_size (by repeat (first | (with_reducible first | exact HB.out | apply below_alloc | apply pw_below_drewN | apply below_drew1 | refine below_set ?_ GE448.out) | exact HB.out))) : w.heap.size ≤ gb456)); have n5_ := Aside0.mk ((by rw [hg]; exact (below_size (by repeat (first | (with_reducible first | exact HB.out | apply below_alloc | apply pw_below_drewN | apply below_drew1 | refine below_set ?_ GE448.out) | exact HB.out))) : w.heap.size ≤ gb456)); have n6_ := Aside0.mk ((by rw [hg]; exact Nat.ne_of_lt (blk_lt (g := gb448) (o := .cells #[.slice A0_0 l0_0.length c0_0] 24 (0, 0)) (by (with_reducible repeat (first | refine blk_drewN ?_ _ | refine blk_drew ?_ | refine blk_alloc ?_ _)); exact BK448.out)) : gb448 ≠ gb456)); have n7_ := Aside0.mk ((by rw [hg]; exact Nat.ne_of_gt (blk_lt (g := gb448) (o := .cells #[.slice A0_0 l0_0.length c0_0] 24 (0, 0)) (by (with_reducible repeat (first | refine blk_drewN ?_ _ | refine blk_drew ?_ | refine blk_alloc ?_ _)); exact BK448.out)) : gb456 ≠ gb448)); clear HO452; clear BK448; clear HB; have HO452 := n0_; have BK448 := n1_; have HB := n2_; have BK456 := n3_; have GW456 := n4_; have GE456 := n5_; have NB448_456 := n6_; have NB456_448 := n7_; clear n0_ n1_ n2_ n3_ n4_ n5_ n6_ n7_; clear hb hbox hg; have hnb20 := NB456_448.out; have hnc20 := NB448_456.out; have hcz21_0 : w19.cell? ⟨gb456, 0, none⟩ = some (.int .i64 0) := (blk_cell BK456.out 0).trans rfl; have hcz21_1 : w19.cell? ⟨gb456, 1, none⟩ = some (.int .i64 0) := (blk_cell BK456.out 1).trans rfl; have hfz21_0 := blk_frozen BK456.out 0; have hfz21_1 := blk_frozen BK456.out 1; have hcz22_0 : w19.cell? ⟨gb448, 0, none⟩ = some (.slice A0_0 l0_0.length c0_0) := (blk_cell BK448.out 0).trans rfl; have hfz22_0 := blk_frozen BK448.out 0) | ((with_reducible refine gate_callee (f := 8) rfl ?_); refine goesL_ (some 21) rfl rfl Tryz.func8 (by kernel_rfl) rfl #[.agg #[.slice A0_0 l0_0.length c0_0]] rfl (by (try simp only [List.map_toArray, List.map_cons, List.map_nil]); first | done | rfl | (simp only [List.length_drop, List.length_take]; rfl)) ?_; (with_reducible refine (laws_toTrie.calls k _ _ l0_0 t457 _ ?side1 ?side2 A9.out).mono ?_); (case side1 => exact Kd.C_below HR0_0.out (by repeat (first | (with_reducible first | exact HB.out | apply below_alloc | apply pw_below_drewN | apply below_drew1 | refine below_set ?_ GE448.out | refine below_set ?_ GE456.out) | exact HB.out))); (case side2 => exact HC0_0.out); rintro e w23 ⟨v458, rfl, ho0, hb⟩; refine ⟨_, rfl, ?_⟩; have n0_ := Aside0.mk (Kd.R_elder' (by (with_reducible repeat (first | apply Kd.R_alloc | apply Kd.R_drewN | apply Kd.R_drew)); exact (Kd.R_mono (Kd.R_far (p := ⟨gb456, 1, none⟩) (Kd.R_far (p := ⟨gb456, 0, none⟩) (Kd.R_types HO452.out BK456.out (by decide)) (fun _ hk => hk.2) (.int .i64 t453)) (fun _ hk => hk.2) (.int .i64 t454)) (fun _ h_ => h_.1))) (Kd.R_base ho0) hb); have n1_ := Aside0.mk (Kd.R_lower (Kd.R_new' ho0 (Kd.R_lt (by (with_reducible repeat (first | apply Kd.R_alloc | apply Kd.R_drewN | apply Kd.R_drew)); exact (Kd.R_mono (Kd.R_far (p := ⟨gb456, 1, none⟩) (Kd.R_far (p := ⟨gb456, 0, none⟩) (Kd.R_types HO452.out BK456.out (by decide)) (fun _ hk => hk.2) (.int .i64 t453)) (fun _ hk => hk.2) (.int .i64 t454)) (fun _ h_ => h_.1))))) (below_size (by repeat (first | (with_reducible first | exact HB.out | apply below_alloc | apply pw_below_drewN | apply below_drew1 | refine below_set ?_ GE448.out | refine below_set ?_ GE456.out) | exact HB.out)))); have n2_ := Aside0.mk (blk_below (g := gb448) (o := .cells #[.slice A0_0 l0_0.length c0_0] 24 (0, 0)) (by (with_reducible repeat (first | refine blk_drewN ?_ _ | refine blk_drew ?_ | refine blk_alloc ?_ _)); refine blk_far ?_ NB448_456.out _; (with_reducible repeat (first | refine blk_drewN ?_ _ | refine blk_drew ?_ | refine blk_alloc ?_ _)); refine blk_far ?_ NB448_456.out _; (with_reducible repeat (first | refine blk_drewN ?_ _ | refine blk_drew ?_ | refine blk_alloc ?_ _)); exact BK448.out) hb); have n3_ := Aside0.mk (blk_below (g := gb456) (o := .cells #[.int .i64 t453, .int .i64 t454] 38 (0, 0)) (by (with_reducible repeat (first | refine blk_drewN ?_ _ | refine blk_drew ?_ | refine blk_alloc ?_ _)); refine blk_put (cs := #[.int .i64 t453, .int .i64 0]) ?_ 1 _ rfl; (with_reducible repeat (first | refine blk_drewN ?_ _ | refine blk_drew ?_ | refine blk_alloc ?_ _)); refine blk_put (cs := #[.int .i64 0, .int .i64 0]) ?_ 0 _ rfl; (with_reducible repeat (first | refine blk_drewN ?_ _ | refine blk_drew ?_ | refine blk_alloc ?_ _)); exact BK456.out) hb); have n4_ := Aside0.mk (below_step (by repeat (first | (with_reducible first | exact HB.out | apply below_alloc | apply pw_below_drewN | apply below_drew1 | refine below_set ?_ GE448.out | refine below_set ?_ GE456.out) | exact HB.out)) hb); clear HO452; clear BK448; clear BK456; clear HB; have HO452 := n0_; have HO459 := n1_; have BK448 := n2_; have BK456 := n3_; have HB := n4_; clear n0_ n1_ n2_ n3_ n4_; (try clear hb); (try clear hb2); (try clear hk); (try clear hi); (try clear ho0)) | ((with_reducible refine gate_dst (N := 6) rfl ?_); refine box_event ?hg (N := 6) ?hd (cs := #[.slice none 0 0]) (t := 31) ?hr ?_; (case hd => rfl); (case hg => rfl); (case hr => first | (go_simp; done) | (go_simp; rfl)); intro gb460 hg w24 hbox hb; have n0_ := Aside0.mk (Kd.R_below (by (with_reducible repeat (first | apply Kd.R_alloc | apply Kd.R_drewN | apply Kd.R_drew)); exact HO452.out) hb); have n1_ := Aside0.mk (Kd.R_below (by (with_reducible repeat (first | apply Kd.R_alloc | apply Kd.R_drewN | apply Kd.R_drew)); exact HO459.out) hb); have n2_ := Aside0.mk (blk_below (g := gb448) (o := .cells #[.slice A0_0 l0_0.length c0_0] 24 (0, 0)) (by (with_reducible repeat (first | refine blk_drewN ?_ _ | refine blk_drew ?_ | refine blk_alloc ?_ _)); exact BK448.out) hb); have n3_ := Aside0.mk (blk_below (g := gb456) (o := .cells #[.int .i64 t453, .int .i64 t454] 38 (0, 0)) (by (with_reducible repeat (first | refine blk_drewN ?_ _ | refine blk_drew ?_ | refine blk_alloc ?_ _)); exact BK456.out) hb); have n4_ := Aside0.mk (below_step (by repeat (first | (with_reducible first | exact HB.out | apply below_alloc | apply pw_below_drewN | apply below_drew1 | refine below_set ?_ GE448.out | refine below_set ?_ GE456.out) | exact HB.out)) hb); have n5_ := Aside0.mk (hbox); have n6_ := Aside0.mk ((by rw [hg]; exact (below_size (by repeat (first | (with_reducible first | exact HB.out | apply below_alloc | apply pw_below_drewN | apply below_drew1 | refine below_set ?_ GE448.out | refine below_set ?_ GE456.out) | exact HB.out))) : w.heap.size ≤ gb460)); have n7_ := Aside0.mk ((by rw [hg]; exact (below_size (by repeat (first | (with_reducible first | exact HB.out | apply below_alloc | apply pw_below_drewN | apply below_drew1 | refine below_set ?_ GE448.out | refine below_set ?_ GE456.out) | exact HB.out))) : w.heap.size ≤ gb460)); have n8_ := Aside0.mk ((by rw [hg]; exact Nat.ne_of_lt (blk_lt (g := gb448) (o := .cells #[.slice A0_0 l0_0.length c0_0] 24 (0, 0)) (by (with_reducible repeat (first | refine blk_drewN ?_ _ | refine blk_drew ?_ | refine blk_alloc ?_ _)); exact BK448.out)) : gb448 ≠ gb460)); have n9_ := Aside0.mk ((by rw [hg]; exact Nat.ne_of_gt (blk_lt (g := gb448) (o := .cells #[.slice A0_0 l0_0.length c0_0] 24 (0, 0)) (by (with_reducible repeat (first | refine blk_drewN ?_ _ | refine blk_drew ?_ | refine blk_alloc ?_ _)); exact BK448.out)) : gb460 ≠ gb448)); have n10_ := Aside0.mk ((by rw [hg]; exact Nat.ne_of_lt (blk_lt (g := gb456) (o := .cells #[.int .i64 t453, .int .i64 t454] 38 (0, 0)) (by (with_reducible repeat (first | refine blk_drewN ?_ _ | refine blk_drew ?_ | refine blk_alloc ?_ _)); exact BK456.out)) : gb456 ≠ gb460)); have n11_ := Aside0.mk ((by rw [hg]; exact Nat.ne_of_gt (blk_lt (g := gb456) (o := .cells #[.int .i64 t453, .int .i64 t454] 38 (0, 0)) (by (with_reducible repeat (first | refine blk_drewN ?_ _ | refine blk_drew ?_ | refine blk_alloc ?_ _)); exact BK456.out)) : gb460 ≠ gb456)); clear HO452; clear HO459; clear BK448; clear BK456; clear HB; have HO452 := n0_; have HO459 := n1_; have BK448 := n2_; have BK456 := n3_; have HB := n4_; have BK460 := n5_; have GW460 := n6_; have GE460 := n7_; have NB448_460 := n8_; have NB460_448 := n9_; have NB456_460 := n10_; have NB460_456 := n11_; clear n0_ n1_ n2_ n3_ n4_ n5_ n6_ n7_ n8_ n9_ n10_ n11_; clear hb hbox hg; obtain ⟨Ao25, co25, eo25⟩ := Kd.R_slice HO459.out; subst eo25; have hnb26 := NB460_448.out; have hnc26 := NB448_460.out; have hnb27 := NB460_456.out; have hnc27 := NB456_460.out; have hcz28_0 : w24.cell? ⟨gb460, 0, none⟩ = some (.slice none 0 0) := (blk_cell BK460.out 0).trans rfl; have hfz28_0 := blk_frozen BK460.out 0) | ((with_reducible refine gate_callee (f := 16) rfl ?_); refine goesL_ (some 24) rfl rfl Tryz.func16 (by kernel_rfl) rfl #[.agg #[.slice Ao25 t457.length co25]] rfl (by (try simp only [List.map_toArray, List.map_cons, List.map_nil]); first | done | rfl | (simp only [List.length_drop, List.length_take]; rfl)) ?_; (with_reducible refine (impl_MeanUnique.calls k _ _ t457 t461 t462 t463 _ ?side1 ?side2 A10.out).mono ?_); (case side1 => refine (Kd.R_reads' (e := 64) (base := w.heap.size) (ok := fun k_ => (True ∧ some k_ ≠ (.slice Ao17 t450.length co17 : Value).ownBlock)) (n := t457.length) (c := co25) ?_).2.2; exact (by (with_reducible repeat (first | apply Kd.R_alloc | apply Kd.R_drewN | apply Kd.R_drew)); exact (Kd.R_mono (Kd.R_far (p := ⟨gb460, 0, none⟩) (Kd.R_types HO459.out BK460.out (by decide)) (fun _ hk => hk.2) (.slice Ao25 t457.length co25)) (fun _ h_ => h_.1)))); (case side2 => exact (Kd.R_reads' HO459.out).2.1); rintro e w29 ⟨rfl, hb⟩; refine ⟨_, rfl, ?_⟩; have n0_ := Aside0.mk (Kd.R_below (by (with_reducible repeat (first | apply Kd.R_alloc | apply Kd.R_drewN | apply Kd.R_drew)); exact (Kd.R_mono (Kd.R_far (p := ⟨gb460, 0, none⟩) (Kd.R_types HO452.out BK460.out (by decide)) (fun _ hk => hk.2) (.slice Ao25 t457.length co25)) (fun _ h_ => h_.1))) hb); have n1_ := Aside0.mk (Kd.R_below (by (with_reducible repeat (first | apply Kd.R_alloc | apply Kd.R_drewN | apply Kd.R_drew)); exact (Kd.R_mono (Kd.R_far (p := ⟨gb460, 0, none⟩) (Kd.R_types HO459.out BK460.out (by decide)) (fun _ hk => hk.2) (.slice Ao25 t457.length co25)) (fun _ h_ => h_.1))) hb); have n2_ := Aside0.mk (blk_below (g := gb448) (o := .cells #[.slice A0_0 l0_0.length c0_0] 24 (0, 0)) (by (with_reducible repeat (first | refine blk_drewN ?_ _ | refine blk_drew ?_ | refine blk_alloc ?_ _)); refine blk_far ?_ NB448_460.out _; (with_reducible repeat (first | refine blk_drewN ?_ _ | refine blk_drew ?_ | refine blk_alloc ?_ _)); exact BK448.out) hb); have n3_ := Aside0.mk (blk_below (g := gb456) (o := .cells #[.int .i64 t453, .int .i64 t454] 38 (0, 0)) (by (with_reducible repeat (first | refine blk_drewN ?_ _ | refine blk_drew ?_ | refine blk_alloc ?_ _)); refine blk_far ?_ NB456_460.out _; (with_reducible repeat (first | refine blk_drewN ?_ _ | refine blk_drew ?_ | refine blk_alloc ?_ _)); exact BK456.out) hb); have n4_ := Aside0.mk (blk_below (g := gb460) (o := .cells #[.slice Ao25 t457.length co25] 31 (0, 0)) (by (with_reducible repeat (first | refine blk_drewN ?_ _ | refine blk_drew ?_ | refine blk_alloc ?_ _)); refine blk_put (cs := #[.slice none 0 0]) ?_ 0 _ rfl; (with_reducible repeat (first | refine blk_drewN ?_ _ | refine blk_drew ?_ | refine blk_alloc ?_ _)); exact BK460.out) hb); have n5_ := Aside0.mk (below_step (by repeat (first | (with_reducible first | exact HB.out | apply below_alloc | apply pw_below_drewN | apply below_drew1 | refine below_set ?_ GE448.out | refine below_set ?_ GE456.out | refine below_set ?_ GE460.out) | exact HB.out)) hb); clear HO452; clear HO459; clear BK448; clear BK456; clear BK460; clear HB; have HO452 := n0_; have HO459 := n1_; have BK448 := n2_; have BK456 := n3_; have BK460 := n4_; have HB := n5_; clear n0_ n1_ n2_ n3_ n4_ n5_; (try clear hb); (try clear hb2); (try clear hk); (try clear hi)) | ((with_reducible refine gate_dst (N := 7) rfl ?_); refine box_event ?hg (N := 7) ?hd (cs := #[.int .i64 0, .int .i64 0]) (t := 38) ?hr ?_; (case hd => rfl); (case hg => rfl); (case hr => first | (go_simp; done) | (go_simp; rfl)); intro gb464 hg w30 hbox hb; have n0_ := Aside0.mk (Kd.R_below (by (with_reducible repeat (first | apply Kd.R_alloc | apply Kd.R_drewN | apply Kd.R_drew)); exact HO452.out) hb); have n1_ := Aside0.mk (Kd.R_below (by (with_reducible repeat (first | apply Kd.R_alloc | apply Kd.R_drewN | apply Kd.R_drew)); exact HO459.out) hb); have n2_ := Aside0.mk (blk_below (g := gb448) (o := .cells #[.slice A0_0 l0_0.length c0_0] 24 (0, 0)) (by (with_reducible repeat (first | refine blk_drewN ?_ _ | refine blk_drew ?_ | refine blk_alloc ?_ _)); exact BK448.out) hb); have n3_ := Aside0.mk (blk_below (g := gb456) (o := .cells #[.int .i64 t453, .int .i64 t454] 38 (0, 0)) (by (with_reducible repeat (first | refine blk_drewN ?_ _ | refine blk_drew ?_ | refine blk_alloc ?_ _)); exact BK456.out) hb); have n4_ := Aside0.mk (blk_below (g := gb460) (o := .cells #[.slice Ao25 t457.length co25] 31 (0, 0)) (by (with_reducible repeat (first | refine blk_drewN ?_ _ | refine blk_drew ?_ | refine blk_alloc ?_ _)); exact BK460.out) hb); have n5_ := Aside0.mk (below_step (by repeat (first | (with_reducible first | exact HB.out | apply below_alloc | apply pw_below_drewN | apply below_drew1 | refine below_set ?_ GE448.out | refine below_set ?_ GE456.out | refine below_set ?_ GE460.out) | exact HB.out)) hb); have n6_ := Aside0.mk (hbox); have n7_ := Aside0.mk ((by rw [hg]; exact (below_size (by repeat (first | (with_reducible first | exact HB.out | apply below_alloc | apply pw_below_drewN | apply below_drew1 | refine below_set ?_ GE448.out | refine below_set ?_ GE456.out | refine below_set ?_ GE460.out) | exact HB.out))) : w.heap.size ≤ gb464)); have n8_ := Aside0.mk ((by rw [hg]; exact (below_size (by repeat (first | (with_reducible first | exact HB.out | apply below_alloc | apply pw_below_drewN | apply below_drew1 | refine below_set ?_ GE448.out | refine below_set ?_ GE456.out | refine below_set ?_ GE460.out) | exact HB.out))) : w.heap.size ≤ gb464)); have n9_ := Aside0.mk ((by rw [hg]; exact Nat.ne_of_lt (blk_lt (g := gb448) (o := .cells #[.slice A0_0 l0_0.length c0_0] 24 (0, 0)) (by (with_reducible repeat (first | refine blk_drewN ?_ _ | refine blk_drew ?_ | refine blk_alloc ?_ _)); exact BK448.out)) : gb448 ≠ gb464)); have n10_ := Aside0.mk ((by rw [hg]; exact Nat.ne_of_gt (blk_lt (g := gb448) (o := .cells #[.slice A0_0 l0_0.length c0_0] 24 (0, 0)) (by (with_reducible repeat (first | refine blk_drewN ?_ _ | refine blk_drew ?_ | refine blk_alloc ?_ _)); exact BK448.out)) : gb464 ≠ gb448)); have n11_ := Aside0.mk ((by rw [hg]; exact Nat.ne_of_lt (blk_lt (g := gb456) (o := .cells #[.int .i64 t453, .int .i64 t454] 38 (0, 0)) (by (with_reducible repeat (first | refine blk_drewN ?_ _ | refine blk_drew ?_ | refine blk_alloc ?_ _)); exact BK456.out)) : gb456 ≠ gb464)); have n12_ := Aside0.mk ((by rw [hg]; exact Nat.ne_of_gt (blk_lt (g := gb456) (o := .cells #[.int .i64 t453, .int .i64 t454] 38 (0, 0)) (by (with_reducible repeat (first | refine blk_drewN ?_ _ | refine blk_drew ?_ | refine blk_alloc ?_ _)); exact BK456.out)) : gb464 ≠ gb456)); have n13_ := Aside0.mk ((by rw [hg]; exact Nat.ne_of_lt (blk_lt (g := gb460) (o := .cells #[.slice Ao25 t457.length co25] 31 (0, 0)) (by (with_reducible repeat (first | refine blk_drewN ?_ _ | refine blk_drew ?_ | refine blk_alloc ?_ _)); exact BK460.out)) : gb460 ≠ gb464)); have n14_ := Aside0.mk ((by rw [hg]; exact Nat.ne_of_gt (blk_lt (g := gb460) (o := .cells #[.slice Ao25 t457.length co25] 31 (0, 0)) (by (with_reducible repeat (first | refine blk_drewN ?_ _ | refine blk_drew ?_ | refine blk_alloc ?_ _)); exact BK460.out)) : gb464 ≠ gb460)); clear HO452; clear HO459; clear BK448; clear BK456; clear BK460; clear HB; have HO452 := n0_; have HO459 := n1_; have BK448 := n2_; have BK456 := n3_; have BK460 := n4_; have HB := n5_; have BK464 := n6_; have GW464 := n7_; have GE464 := n8_; have NB448_464 := n9_; have NB464_448 := n10_; have NB456_464 := n11_; have NB464_456 := n12_; have NB460_464 := n13_; have NB464_460 := n14_; clear n0_ n1_ n2_ n3_ n4_ n5_ n6_ n7_ n8_ n9_ n10_ n11_ n12_ n13_ n14_; clear hb hbox hg; have hnb31 := NB464_448.out; have hnc31 := NB448_464.out; have hnb32 := NB464_456.out; have hnc32 := NB456_464.out; have hnb33 := NB464_460.out; have hnc33 := NB460_464.out; have hcz34_0 : w30.cell? ⟨gb464, 0, none⟩ = some (.int .i64 0) := (blk_cell BK464.out 0).trans rfl; have hcz34_1 : w30.cell? ⟨gb464, 1, none⟩ = some (.int .i64 0) := (blk_cell BK464.out 1).trans rfl; have hfz34_0 := blk_frozen BK464.out 0; have hfz34_1 := blk_frozen BK464.out 1))
  (try simp only [Act.put, List.setIfInBounds_toArray, List.set_cons_zero, List.set_cons_succ])
  go_cut [35] (fun v35 wc => ∃ (kq : Nat) (x35_10 : Bool), v35 = .bool x35_10 ∧ Aside0 (laws_FnExactMeanUnique.j0 kq x35_10 l0_0 t457 = some r) ∧ Aside0 (kq ≤ k) ∧ Aside0 (Kd.R k64 64 wc w.heap.size (fun _ => True) (.slice Ao25 t457.length co25) t457) ∧ Aside0 (wc.heap[gb448]? = some (.cells #[(.slice A0_0 l0_0.length c0_0)] 24 (0, 0))) ∧ Aside0 (wc.heap[gb456]? = some (.cells #[.int .i64 t453, .int .i64 t454] 38 (0, 0))) ∧ Aside0 (wc.heap[gb460]? = some (.cells #[(.slice Ao25 t457.length co25)] 31 (0, 0))) ∧ Aside0 (wc.heap[gb464]? = some (.cells #[.int .i64 t461, .int .i64 t462] 38 (0, 0))) ∧ Aside0 (Below w.heap.size w wc))
  case first =>
   have H := HC11.out
   clear HC11
   replace H := Option.bind_eq_some_iff.mp H
   obtain ⟨t465, A350, H⟩ := H
   replace H : (if t465 = true then (laws_FnExactMeanUnique.j0 k (t463 != t455) l0_0 t457) else (laws_FnExactMeanUnique.j0 k true l0_0 t457)) = some r := H
   have A35 := Aside0.mk A350
   clear A350
   by_cases c36 : t465 = true
   ·
    subst c36
    have H1 : (laws_FnExactMeanUnique.j0 k (t463 != t455) l0_0 t457) = some r := by rw [if_pos rfl] at H; exact H
    clear H
    have H := H1
    clear H1
    have H' := Aside0.mk H
    clear H
    have hnb37 := NB464_448.out
    have hnc37 := NB448_464.out
    have hnb38 := NB464_456.out
    have hnc38 := NB456_464.out
    have hnb39 := NB464_460.out
    have hnc39 := NB460_464.out
    have hcz40_0 : w30.cell? ⟨gb464, 0, none⟩ = some (.int .i64 0) := (blk_cell BK464.out 0).trans rfl
    have hcz40_1 : w30.cell? ⟨gb464, 1, none⟩ = some (.int .i64 0) := (blk_cell BK464.out 1).trans rfl
    have hfz40_0 := blk_frozen BK464.out 0
    have hfz40_1 := blk_frozen BK464.out 1
    have hnb41 := NB456_448.out
    have hnc41 := NB448_456.out
    have hnb42 := NB456_460.out
    have hnc42 := NB460_456.out
    have hcz43_0 : w30.cell? ⟨gb456, 0, none⟩ = some (.int .i64 t453) := (blk_cell BK456.out 0).trans rfl
    have hcz43_1 : w30.cell? ⟨gb456, 1, none⟩ = some (.int .i64 t454) := (blk_cell BK456.out 1).trans rfl
    have hfz43_0 := blk_frozen BK456.out 0
    have hfz43_1 := blk_frozen BK456.out 1
    go_wp2_with (first | ((with_reducible refine gate_callee (f := 17) rfl ?_); refine goesL_ (some 29) rfl rfl Tryz.func17 (by kernel_rfl) rfl #[.agg #[.int .i64 t461, .int .i64 t462], .agg #[.int .i64 t453, .int .i64 t454]] rfl (by (try simp only [List.map_toArray, List.map_cons, List.map_nil]); first | done | rfl | (simp only [List.length_drop, List.length_take]; rfl)) ?_; (with_reducible refine (laws_eqIntA2.calls t461 t462 t453 t454 true _ A35.out).mono ?_); rintro e w44 ⟨rfl, hb⟩; refine ⟨_, rfl, ?_⟩; have n0_ := Aside0.mk (Kd.R_below (by (with_reducible repeat (first | apply Kd.R_alloc | apply Kd.R_drewN | apply Kd.R_drew)); exact (Kd.R_mono (Kd.R_far (p := ⟨gb464, 1, none⟩) (Kd.R_far (p := ⟨gb464, 0, none⟩) (Kd.R_types HO452.out BK464.out (by decide)) (fun _ hk => hk.2) (.int .i64 t461)) (fun _ hk => hk.2) (.int .i64 t462)) (fun _ h_ => h_.1))) hb); have n1_ := Aside0.mk (Kd.R_below (by (with_reducible repeat (first | apply Kd.R_alloc | apply Kd.R_drewN | apply Kd.R_drew)); exact (Kd.R_mono (Kd.R_far (p := ⟨gb464, 1, none⟩) (Kd.R_far (p := ⟨gb464, 0, none⟩) (Kd.R_types HO459.out BK464.out (by decide)) (fun _ hk => hk.2) (.int .i64 t461)) (fun _ hk => hk.2) (.int .i64 t462)) (fun _ h_ => h_.1))) hb); have n2_ := Aside0.mk (blk_below (g := gb448) (o := .cells #[.slice A0_0 l0_0.length c0_0] 24 (0, 0)) (by (with_reducible repeat (first | refine blk_drewN ?_ _ | refine blk_drew ?_ | refine blk_alloc ?_ _)); refine blk_far ?_ NB448_464.out _; (with_reducible repeat (first | refine blk_drewN ?_ _ | refine blk_drew ?_ | refine blk_alloc ?_ _)); refine blk_far ?_ NB448_464.out _; (with_reducible repeat (first | refine blk_drewN ?_ _ | refine blk_drew ?_ | refine blk_alloc ?_ _)); exact BK448.out) hb); have n3_ := Aside0.mk (blk_below (g := gb456) (o := .cells #[.int .i64 t453, .int .i64 t454] 38 (0, 0)) (by (with_reducible repeat (first | refine blk_drewN ?_ _ | refine blk_drew ?_ | refine blk_alloc ?_ _)); refine blk_far ?_ NB456_464.out _; (with_reducible repeat (first | refine blk_drewN ?_ _ | refine blk_drew ?_ | refine blk_alloc ?_ _)); refine blk_far ?_ NB456_464.out _; (with_reducible repeat (first | refine blk_drewN ?_ _ | refine blk_drew ?_ | refine blk_alloc ?_ _)); exact BK456.out) hb); have n4_ := Aside0.mk (blk_below (g := gb460) (o := .cells #[.slice Ao25 t457.length co25] 31 (0, 0)) (by (with_reducible repeat (first | refine blk_drewN ?_ _ | refine blk_drew ?_ | refine blk_alloc ?_ _)); refine blk_far ?_ NB460_464.out _; (with_reducible repeat (first | refine blk_drewN ?_ _ | refine blk_drew ?_ | refine blk_alloc ?_ _)); refine blk_far ?_ NB460_464.out _; (with_reducible repeat (first | refine blk_drewN ?_ _ | refine blk_drew ?_ | refine blk_alloc ?_ _)); exact BK460.out) hb); have n5_ := Aside0.mk (blk_below (g := gb464) (o := .cells #[.int .i64 t461, .int .i64 t462] 38 (0, 0)) (by (with_reducible repeat (first | refine blk_drewN ?_ _ | refine blk_drew ?_ | refine blk_alloc ?_ _)); refine blk_put (cs := #[.int .i64 t461, .int .i64 0]) ?_ 1 _ rfl; (with_reducible repeat (first | refine blk_drewN ?_ _ | refine blk_drew ?_ | refine blk_alloc ?_ _)); refine blk_put (cs := #[.int .i64 0, .int .i64 0]) ?_ 0 _ rfl; (with_reducible repeat (first | refine blk_drewN ?_ _ | refine blk_drew ?_ | refine blk_alloc ?_ _)); exact BK464.out) hb); have n6_ := Aside0.mk (below_step (by repeat (first | (with_reducible first | exact HB.out | apply below_alloc | apply pw_below_drewN | apply below_drew1 | refine below_set ?_ GE448.out | refine below_set ?_ GE456.out | refine below_set ?_ GE460.out | refine below_set ?_ GE464.out) | exact HB.out)) hb); clear HO452; clear HO459; clear BK448; clear BK456; clear BK460; clear BK464; clear HB; have HO452 := n0_; have HO459 := n1_; have BK448 := n2_; have BK456 := n3_; have BK460 := n4_; have BK464 := n5_; have HB := n6_; clear n0_ n1_ n2_ n3_ n4_ n5_ n6_; (try clear hb); (try clear hb2); (try clear hk); (try clear hi)))
    go_meet
    case rel => exact ⟨_, ((t463 != t455)), (by first | rfl | (simp; done) | (simp [*]; done)), H', ⟨by first | omega | exact Nat.le_refl _⟩, ⟨by (with_reducible repeat (first | apply Kd.R_alloc | apply Kd.R_drewN | apply Kd.R_drew)); exact Kd.R_mono HO459.out (fun _ hk => trivial)⟩, ⟨by (with_reducible repeat (first | refine blk_drewN ?_ _ | refine blk_drew ?_ | refine blk_alloc ?_ _)); exact BK448.out⟩, ⟨by (with_reducible repeat (first | refine blk_drewN ?_ _ | refine blk_drew ?_ | refine blk_alloc ?_ _)); exact BK456.out⟩, ⟨by (with_reducible repeat (first | refine blk_drewN ?_ _ | refine blk_drew ?_ | refine blk_alloc ?_ _)); exact BK460.out⟩, ⟨by (with_reducible repeat (first | refine blk_drewN ?_ _ | refine blk_drew ?_ | refine blk_alloc ?_ _)); exact BK464.out⟩, ⟨by repeat (first | (with_reducible first | exact HB.out | apply below_alloc | apply pw_below_drewN | apply below_drew1 | refine below_set ?_ GE448.out | refine below_set ?_ GE456.out | refine below_set ?_ GE460.out | refine below_set ?_ GE464.out) | exact HB.out)⟩⟩
   ·
    replace c36 := Bool.eq_false_iff.mpr c36
    subst c36
    have H1 : (laws_FnExactMeanUnique.j0 k true l0_0 t457) = some r := by rw [if_neg (show ¬ (false = true) by decide)] at H; exact H
    clear H
    have H := H1
    clear H1
    have H' := Aside0.mk H
    clear H
    have hnb45 := NB464_448.out
    have hnc45 := NB448_464.out
    have hnb46 := NB464_456.out
    have hnc46 := NB456_464.out
    have hnb47 := NB464_460.out
    have hnc47 := NB460_464.out
    have hcz48_0 : w30.cell? ⟨gb464, 0, none⟩ = some (.int .i64 0) := (blk_cell BK464.out 0).trans rfl
    have hcz48_1 : w30.cell? ⟨gb464, 1, none⟩ = some (.int .i64 0) := (blk_cell BK464.out 1).trans rfl
    have hfz48_0 := blk_frozen BK464.out 0
    have hfz48_1 := blk_frozen BK464.out 1
    have hnb49 := NB456_448.out
    have hnc49 := NB448_456.out
    have hnb50 := NB456_460.out
    have hnc50 := NB460_456.out
    have hcz51_0 : w30.cell? ⟨gb456, 0, none⟩ = some (.int .i64 t453) := (blk_cell BK456.out 0).trans rfl
    have hcz51_1 : w30.cell? ⟨gb456, 1, none⟩ = some (.int .i64 t454) := (blk_cell BK456.out 1).trans rfl
    have hfz51_0 := blk_frozen BK456.out 0
    have hfz51_1 := blk_frozen BK456.out 1
    go_wp2_with (first | ((with_reducible refine gate_callee (f := 17) rfl ?_); refine goesL_ (some 29) rfl rfl Tryz.func17 (by kernel_rfl) rfl #[.agg #[.int .i64 t461, .int .i64 t462], .agg #[.int .i64 t453, .int .i64 t454]] rfl (by (try simp only [List.map_toArray, List.map_cons, List.map_nil]); first | done | rfl | (simp only [List.length_drop, List.length_take]; rfl)) ?_; (with_reducible refine (laws_eqIntA2.calls t461 t462 t453 t454 false _ A35.out).mono ?_); rintro e w52 ⟨rfl, hb⟩; refine ⟨_, rfl, ?_⟩; have n0_ := Aside0.mk (Kd.R_below (by (with_reducible repeat (first | apply Kd.R_alloc | apply Kd.R_drewN | apply Kd.R_drew)); exact (Kd.R_mono (Kd.R_far (p := ⟨gb464, 1, none⟩) (Kd.R_far (p := ⟨gb464, 0, none⟩) (Kd.R_types HO452.out BK464.out (by decide)) (fun _ hk => hk.2) (.int .i64 t461)) (fun _ hk => hk.2) (.int .i64 t462)) (fun _ h_ => h_.1))) hb); have n1_ := Aside0.mk (Kd.R_below (by (with_reducible repeat (first | apply Kd.R_alloc | apply Kd.R_drewN | apply Kd.R_drew)); exact (Kd.R_mono (Kd.R_far (p := ⟨gb464, 1, none⟩) (Kd.R_far (p := ⟨gb464, 0, none⟩) (Kd.R_types HO459.out BK464.out (by decide)) (fun _ hk => hk.2) (.int .i64 t461)) (fun _ hk => hk.2) (.int .i64 t462)) (fun _ h_ => h_.1))) hb); have n2_ := Aside0.mk (blk_below (g := gb448) (o := .cells #[.slice A0_0 l0_0.length c0_0] 24 (0, 0)) (by (with_reducible repeat (first | refine blk_drewN ?_ _ | refine blk_drew ?_ | refine blk_alloc ?_ _)); refine blk_far ?_ NB448_464.out _; (with_reducible repeat (first | refine blk_drewN ?_ _ | refine blk_drew ?_ | refine blk_alloc ?_ _)); refine blk_far ?_ NB448_464.out _; (with_reducible repeat (first | refine blk_drewN ?_ _ | refine blk_drew ?_ | refine blk_alloc ?_ _)); exact BK448.out) hb); have n3_ := Aside0.mk (blk_below (g := gb456) (o := .cells #[.int .i64 t453, .int .i64 t454] 38 (0, 0)) (by (with_reducible repeat (first | refine blk_drewN ?_ _ | refine blk_drew ?_ | refine blk_alloc ?_ _)); refine blk_far ?_ NB456_464.out _; (with_reducible repeat (first | refine blk_drewN ?_ _ | refine blk_drew ?_ | refine blk_alloc ?_ _)); refine blk_far ?_ NB456_464.out _; (with_reducible repeat (first | refine blk_drewN ?_ _ | refine blk_drew ?_ | refine blk_alloc ?_ _)); exact BK456.out) hb); have n4_ := Aside0.mk (blk_below (g := gb460) (o := .cells #[.slice Ao25 t457.length co25] 31 (0, 0)) (by (with_reducible repeat (first | refine blk_drewN ?_ _ | refine blk_drew ?_ | refine blk_alloc ?_ _)); refine blk_far ?_ NB460_464.out _; (with_reducible repeat (first | refine blk_drewN ?_ _ | refine blk_drew ?_ | refine blk_alloc ?_ _)); refine blk_far ?_ NB460_464.out _; (with_reducible repeat (first | refine blk_drewN ?_ _ | refine blk_drew ?_ | refine blk_alloc ?_ _)); exact BK460.out) hb); have n5_ := Aside0.mk (blk_below (g := gb464) (o := .cells #[.int .i64 t461, .int .i64 t462] 38 (0, 0)) (by (with_reducible repeat (first | refine blk_drewN ?_ _ | refine blk_drew ?_ | refine blk_alloc ?_ _)); refine blk_put (cs := #[.int .i64 t461, .int .i64 0]) ?_ 1 _ rfl; (with_reducible repeat (first | refine blk_drewN ?_ _ | refine blk_drew ?_ | refine blk_alloc ?_ _)); refine blk_put (cs := #[.int .i64 0, .int .i64 0]) ?_ 0 _ rfl; (with_reducible repeat (first | refine blk_drewN ?_ _ | refine blk_drew ?_ | refine blk_alloc ?_ _)); exact BK464.out) hb); have n6_ := Aside0.mk (below_step (by repeat (first | (with_reducible first | exact HB.out | apply below_alloc | apply pw_below_drewN | apply below_drew1 | refine below_set ?_ GE448.out | refine below_set ?_ GE456.out | refine below_set ?_ GE460.out | refine below_set ?_ GE464.out) | exact HB.out)) hb); clear HO452; clear HO459; clear BK448; clear BK456; clear BK460; clear BK464; clear HB; have HO452 := n0_; have HO459 := n1_; have BK448 := n2_; have BK456 := n3_; have BK460 := n4_; have BK464 := n5_; have HB := n6_; clear n0_ n1_ n2_ n3_ n4_ n5_ n6_; (try clear hb); (try clear hb2); (try clear hk); (try clear hi)))
    go_meet
    case rel => exact ⟨_, (true), (by first | rfl | (simp; done) | (simp [*]; done)), H', ⟨by first | omega | exact Nat.le_refl _⟩, ⟨by (with_reducible repeat (first | apply Kd.R_alloc | apply Kd.R_drewN | apply Kd.R_drew)); exact Kd.R_mono HO459.out (fun _ hk => trivial)⟩, ⟨by (with_reducible repeat (first | refine blk_drewN ?_ _ | refine blk_drew ?_ | refine blk_alloc ?_ _)); exact BK448.out⟩, ⟨by (with_reducible repeat (first | refine blk_drewN ?_ _ | refine blk_drew ?_ | refine blk_alloc ?_ _)); exact BK456.out⟩, ⟨by (with_reducible repeat (first | refine blk_drewN ?_ _ | refine blk_drew ?_ | refine blk_alloc ?_ _)); exact BK460.out⟩, ⟨by (with_reducible repeat (first | refine blk_drewN ?_ _ | refine blk_drew ?_ | refine blk_alloc ?_ _)); exact BK464.out⟩, ⟨by repeat (first | (with_reducible first | exact HB.out | apply below_alloc | apply pw_below_drewN | apply below_drew1 | refine below_set ?_ GE448.out | refine below_set ?_ GE456.out | refine below_set ?_ GE460.out | refine below_set ?_ GE464.out) | exact HB.out)⟩⟩
  case rest =>
   clear HC11
   try clear c1
   try clear c2
   try clear p2
   try clear c3
   try clear c3b0
   try clear c4
   try clear c5
   try clear c6
   try clear c8
   try clear c15
   try clear c16
   try clear c17
   try clear c20
   try clear c26
   try clear c27
   try clear c31
   try clear c32
   try clear c33
   try clear c36
   try clear c37
   try clear c38
   try clear c39
   try clear c41
   try clear c42
   try clear c45
   try clear c46
   try clear c47
   try clear c49
   try clear c50
   try clear hcz13_0
   try clear hcz15_0
   try clear hcz21_0
   try clear hcz21_1
   try clear hcz22_0
   try clear hcz28_0
   try clear hcz34_0
   try clear hcz34_1
   try clear hcz40_0
   try clear hcz40_1
   try clear hcz43_0
   try clear hcz43_1
   try clear hcz48_0
   try clear hcz48_1
   try clear hcz51_0
   try clear hcz51_1
   try clear hcz5_0
   try clear hfz13_0
   try clear hfz15_0
   try clear hfz21_0
   try clear hfz21_1
   try clear hfz22_0
   try clear hfz28_0
   try clear hfz34_0
   try clear hfz34_1
   try clear hfz40_0
   try clear hfz40_1
   try clear hfz43_0
   try clear hfz43_1
   try clear hfz48_0
   try clear hfz48_1
   try clear hfz51_0
   try clear hfz51_1
   try clear hfz5_0
   obtain ⟨kq, x35_10, rfl, HA, HJ10, HO_461000, BK448, BK456, BK460, BK464, HB⟩ := hcut
   cases kq with
   | zero => exact absurd HA.out (by simp [laws_FnExactMeanUnique.j0])
   | succ kj10 =>
    have H := HA.out
    clear HA
    simp only [laws_FnExactMeanUnique.j0] at H
    by_cases c53 : x35_10 = true
    ·
     subst c53
     have H1 : (some false) = some r := by rw [if_pos rfl] at H; exact H
     clear H
     have H := H1
     clear H1
     obtain rfl := Option.some.inj H
     go_wp2
     go_ret
     exact ⟨by first | rfl | (simp [errW_none, errW_some] <;> rfl) | (simp [*, errW_none, errW_some] <;> rfl), by repeat (first | (with_reducible first | exact HB.out | apply below_alloc | apply pw_below_drewN | apply below_drew1 | refine below_set ?_ GE448.out | refine below_set ?_ GE456.out | refine below_set ?_ GE460.out | refine below_set ?_ GE464.out) | exact HB.out)⟩
    ·
     replace c53 := Bool.eq_false_iff.mpr c53
     subst c53
     have H1 : ((laws_toTrie.f kj10 l0_0).bind fun t466 => ((laws_eqTrie.f kj10 t457 t466).bind fun t469 => (if t469 = true then (some true) else (some false)))) = some r := by rw [if_neg (show ¬ (false = true) by decide)] at H; exact H
     clear H
     have H := H1
     clear H1
     replace H := Option.bind_eq_some_iff.mp H
     obtain ⟨t466, A540, H⟩ := H
     replace H : ((laws_eqTrie.f kj10 t457 t466).bind fun t469 => (if t469 = true then (some true) else (some false))) = some r := H
     have A54 := Aside0.mk A540
     clear A540
     replace H := Option.bind_eq_some_iff.mp H
     obtain ⟨t469, A550, H⟩ := H
     replace H : (if t469 = true then (some true) else (some false)) = some r := H
     have A55 := Aside0.mk A550
     clear A550
     by_cases c56 : t469 = true
     ·
      subst c56
      have H1 : (some true) = some r := by rw [if_pos rfl] at H; exact H
      clear H
      have H := H1
      clear H1
      obtain rfl := Option.some.inj H
      try go_wp2
      have n0_ := Aside0.mk (Kd.R_drew HO_461000.out)
      have n1_ := Aside0.mk (blk_drew BK448.out)
      have n2_ := Aside0.mk (blk_drew BK456.out)
      have n3_ := Aside0.mk (blk_drew BK460.out)
      have n4_ := Aside0.mk (blk_drew BK464.out)
      have n5_ := Aside0.mk (below_drew1 HB.out)
      clear HO_461000
      clear BK448
      clear BK456
      clear BK460
      clear BK464
      clear HB
      have HO_461000 := n0_
      have BK448 := n1_
      have BK456 := n2_
      have BK460 := n3_
      have BK464 := n4_
      have HB := n5_
      clear n0_ n1_ n2_ n3_ n4_ n5_
      refine start_ (n := 5) (S := fun w' => w'.cell? ⟨gb460, 0, none⟩ = some (.slice Ao25 t457.length co25) ∧ w'.cell? ⟨gb448, 0, none⟩ = some (.slice A0_0 l0_0.length c0_0)) (ds := []) #[false, false, false, false, false] (by kernel_rfl) rfl rfl ⟨(blk_cell BK460.out 0).trans rfl, (blk_cell BK448.out 0).trans rfl⟩ (fun hHeld => ?_)
      generalize wc.drew = w57 at HO_461000 BK448 BK456 BK460 BK464 HB hHeld ⊢
      refine take_ (i := 0) (N := some 36) (v := ?_) (a' := ?_) #[true, false, false, false, false] rfl rfl (by kernel_rfl) (fun _ _ _ h => h) (Or.inl ⟨by rfl, ?_⟩) hHeld ?_ ?_
      rotate_left
      ·
       rintro w' ⟨s0, s1⟩
       go_simp
       with_reducible rfl
      rotate_left
      ·
       simp only [Act.put, List.setIfInBounds_toArray, List.set_cons_zero, List.set_cons_succ, i64_w, i32_w]
       rfl
      refine take_ (i := 1) (N := some 37) (v := ?_) (a' := ?_) #[true, true, false, false, false] rfl rfl (by kernel_rfl) (fun _ _ _ h => h) (Or.inl ⟨by rfl, ?_⟩) hHeld ?_ ?_
      rotate_left
      ·
       rintro w' ⟨s0, s1⟩
       go_simp
       with_reducible rfl
      rotate_left
      ·
       simp only [Act.put, List.setIfInBounds_toArray, List.set_cons_zero, List.set_cons_succ, i64_w, i32_w]
       rfl
      refine one_ (i := 2) (N := some 38) #[true, true, true, false, false] rfl rfl (by kernel_rfl) (by decide) (fun K hK => ?_)
      refine goes_ Tryz.func8 (by kernel_rfl) rfl #[.agg #[.slice A0_0 l0_0.length c0_0]] (by rfl) rfl rfl (by (try simp only [List.map_toArray, List.map_cons, List.map_nil]); first | done | rfl | (simp only [List.length_drop, List.length_take]; rfl)) ?_
      with_reducible refine (laws_toTrie.calls kj10 _ _ l0_0 t466 _ ?side1 ?side2 A54.out).mono ?_
      (case side1 => repeat (first | exact (Kd.C_below HR0_0.out HB.out) | (with_reducible refine Kd.C_alloc ?_ _) | (with_reducible refine Kd.C_drewN ?_ _) | (with_reducible refine Kd.C_drew ?_)))
      (case side2 => exact HC0_0.out)
      rintro e w58 ⟨v467, rfl, ho0, hb⟩
      refine ⟨_, rfl, ?_⟩
      have n0_ := Aside0.mk (Kd.R_elder' (by (with_reducible repeat (first | apply Kd.R_alloc | apply Kd.R_drewN | apply Kd.R_drew)); exact HO_461000.out) (Kd.R_base ho0) hb)
      have n1_ := Aside0.mk (Kd.R_lower (Kd.R_new' ho0 (Kd.R_lt (by (with_reducible repeat (first | apply Kd.R_alloc | apply Kd.R_drewN | apply Kd.R_drew)); exact HO_461000.out))) (below_size (by repeat (first | (with_reducible first | exact HB.out | apply below_alloc | apply pw_below_drewN | apply below_drew1 | refine below_set ?_ GE448.out | refine below_set ?_ GE456.out | refine below_set ?_ GE460.out | refine below_set ?_ GE464.out) | exact HB.out))))
      have n2_ := Aside0.mk (blk_below (g := gb448) (o := .cells #[.slice A0_0 l0_0.length c0_0] 24 (0, 0)) (by (with_reducible repeat (first | refine blk_drewN ?_ _ | refine blk_drew ?_ | refine blk_alloc ?_ _)); exact BK448.out) hb)
      have n3_ := Aside0.mk (blk_below (g := gb456) (o := .cells #[.int .i64 t453, .int .i64 t454] 38 (0, 0)) (by (with_reducible repeat (first | refine blk_drewN ?_ _ | refine blk_drew ?_ | refine blk_alloc ?_ _)); exact BK456.out) hb)
      have n4_ := Aside0.mk (blk_below (g := gb460) (o := .cells #[.slice Ao25 t457.length co25] 31 (0, 0)) (by (with_reducible repeat (first | refine blk_drewN ?_ _ | refine blk_drew ?_ | refine blk_alloc ?_ _)); exact BK460.out) hb)
      have n5_ := Aside0.mk (blk_below (g := gb464) (o := .cells #[.int .i64 t461, .int .i64 t462] 38 (0, 0)) (by (with_reducible repeat (first | refine blk_drewN ?_ _ | refine blk_drew ?_ | refine blk_alloc ?_ _)); exact BK464.out) hb)
      have n6_ := Aside0.mk (below_step (by repeat (first | (with_reducible first | exact HB.out | apply below_alloc | apply pw_below_drewN | apply below_drew1 | refine below_set ?_ GE448.out | refine below_set ?_ GE456.out | refine below_set ?_ GE460.out | refine below_set ?_ GE464.out) | exact HB.out)) hb)
      clear HO_461000
      clear BK448
      clear BK456
      clear BK460
      clear BK464
      clear HB
      have HO_461000 := n0_
      have HO468 := n1_
      have BK448 := n2_
      have BK456 := n3_
      have BK460 := n4_
      have BK464 := n5_
      have HB := n6_
      clear n0_ n1_ n2_ n3_ n4_ n5_ n6_
      (try clear hb)
      (try clear hb2)
      (try clear hk)
      (try clear hi)
      (try clear ho0)
      obtain ⟨Ao59, co59, eo59⟩ := Kd.R_slice HO468.out
      (first | subst eo59 | (injection eo59 with f1_ f2_ f3_; have f4_ := f1_.symm; have f5_ := f3_.symm; clear f1_ f2_ f3_; subst f4_; subst f5_))
      refine hK.out _ _ ⟨(blk_cell BK460.out 0).trans rfl, (blk_cell BK448.out 0).trans rfl⟩ (fun hHeld => ?_)
      clear hK K
      refine norm_ (a' := ?_) ?_ ?_
      rotate_left
      ·
       show Act.put _ (some 38) _ = _
       simp only [Act.put, List.setIfInBounds_toArray, List.set_cons_zero, List.set_cons_succ, i64_w, i32_w]
       rfl
      refine one_ (i := 3) (N := some 39) #[true, true, true, true, false] rfl rfl (by kernel_rfl) (by decide) (fun K hK => ?_)
      refine goes_ Tryz.func11 (by kernel_rfl) rfl #[.agg #[.slice Ao25 t457.length co25], .agg #[.slice Ao59 t466.length co59]] (by rfl) rfl rfl (by (try simp only [List.map_toArray, List.map_cons, List.map_nil]); first | done | rfl | (simp only [List.length_drop, List.length_take]; rfl)) ?_
      with_reducible refine (laws_eqTrie.calls kj10 _ _ t457 _ _ t466 true _ ?side1 ?side2 ?side3 ?side4 A55.out).mono ?_
      (case side1 => repeat (first | exact (Kd.R_reads' HO_461000.out).2.2 | (with_reducible refine Kd.C_alloc ?_ _) | (with_reducible refine Kd.C_drewN ?_ _) | (with_reducible refine Kd.C_drew ?_)))
      (case side2 => exact (Kd.R_reads' HO_461000.out).2.1)
      (case side3 => repeat (first | exact (Kd.R_reads' HO468.out).2.2 | (with_reducible refine Kd.C_alloc ?_ _) | (with_reducible refine Kd.C_drewN ?_ _) | (with_reducible refine Kd.C_drew ?_)))
      (case side4 => exact (Kd.R_reads' HO468.out).2.1)
      rintro e w60 ⟨rfl, hb⟩
      refine ⟨_, rfl, ?_⟩
      have n0_ := Aside0.mk (Kd.R_below (by (with_reducible repeat (first | apply Kd.R_alloc | apply Kd.R_drewN | apply Kd.R_drew)); exact HO_461000.out) hb)
      have n1_ := Aside0.mk (Kd.R_below (by (with_reducible repeat (first | apply Kd.R_alloc | apply Kd.R_drewN | apply Kd.R_drew)); exact HO468.out) hb)
      have n2_ := Aside0.mk (blk_below (g := gb448) (o := .cells #[.slice A0_0 l0_0.length c0_0] 24 (0, 0)) (by (with_reducible repeat (first | refine blk_drewN ?_ _ | refine blk_drew ?_ | refine blk_alloc ?_ _)); exact BK448.out) hb)
      have n3_ := Aside0.mk (blk_below (g := gb456) (o := .cells #[.int .i64 t453, .int .i64 t454] 38 (0, 0)) (by (with_reducible repeat (first | refine blk_drewN ?_ _ | refine blk_drew ?_ | refine blk_alloc ?_ _)); exact BK456.out) hb)
      have n4_ := Aside0.mk (blk_below (g := gb460) (o := .cells #[.slice Ao25 t457.length co25] 31 (0, 0)) (by (with_reducible repeat (first | refine blk_drewN ?_ _ | refine blk_drew ?_ | refine blk_alloc ?_ _)); exact BK460.out) hb)
      have n5_ := Aside0.mk (blk_below (g := gb464) (o := .cells #[.int .i64 t461, .int .i64 t462] 38 (0, 0)) (by (with_reducible repeat (first | refine blk_drewN ?_ _ | refine blk_drew ?_ | refine blk_alloc ?_ _)); exact BK464.out) hb)
      have n6_ := Aside0.mk (below_step (by repeat (first | (with_reducible first | exact HB.out | apply below_alloc | apply pw_below_drewN | apply below_drew1 | refine below_set ?_ GE448.out | refine below_set ?_ GE456.out | refine below_set ?_ GE460.out | refine below_set ?_ GE464.out) | exact HB.out)) hb)
      clear HO_461000
      clear HO468
      clear BK448
      clear BK456
      clear BK460
      clear BK464
      clear HB
      have HO_461000 := n0_
      have HO468 := n1_
      have BK448 := n2_
      have BK456 := n3_
      have BK460 := n4_
      have BK464 := n5_
      have HB := n6_
      clear n0_ n1_ n2_ n3_ n4_ n5_ n6_
      (try clear hb)
      (try clear hb2)
      (try clear hk)
      (try clear hi)
      refine hK.out _ _ ⟨(blk_cell BK460.out 0).trans rfl, (blk_cell BK448.out 0).trans rfl⟩ (fun hHeld => ?_)
      clear hK K
      refine norm_ (a' := ?_) ?_ ?_
      rotate_left
      ·
       show Act.put _ (some 39) _ = _
       simp only [Act.put, List.setIfInBounds_toArray, List.set_cons_zero, List.set_cons_succ, i64_w, i32_w]
       rfl
      refine pure_ (i := 4) (N := some 40) (v := ?_) (a' := ?_) #[true, true, true, true, true] rfl rfl (by kernel_rfl) (fun _ _ _ h => h) (Or.inl ⟨by rfl, ?_⟩) ?_ ?_
      rotate_left
      ·
       intro w'
       go_simp
       with_reducible rfl
      rotate_left
      ·
       simp only [Act.put, List.setIfInBounds_toArray, List.set_cons_zero, List.set_cons_succ, i64_w, i32_w]
       rfl
      refine done_ (by kernel_rfl) ?_
      try go_wp2
      go_ret
      exact ⟨by first | rfl | (simp [errW_none, errW_some] <;> rfl) | (simp [*, errW_none, errW_some] <;> rfl), by repeat (first | (with_reducible first | exact HB.out | apply below_alloc | apply pw_below_drewN | apply below_drew1 | refine below_set ?_ GE448.out | refine below_set ?_ GE456.out | refine below_set ?_ GE460.out | refine below_set ?_ GE464.out) | exact HB.out)⟩
     ·
      replace c56 := Bool.eq_false_iff.mpr c56
      subst c56
      have H1 : (some false) = some r := by rw [if_neg (show ¬ (false = true) by decide)] at H; exact H
      clear H
      have H := H1
      clear H1
      obtain rfl := Option.some.inj H
      try go_wp2
      have n0_ := Aside0.mk (Kd.R_drew HO_461000.out)
      have n1_ := Aside0.mk (blk_drew BK448.out)
      have n2_ := Aside0.mk (blk_drew BK456.out)
      have n3_ := Aside0.mk (blk_drew BK460.out)
      have n4_ := Aside0.mk (blk_drew BK464.out)
      have n5_ := Aside0.mk (below_drew1 HB.out)
      clear HO_461000
      clear BK448
      clear BK456
      clear BK460
      clear BK464
      clear HB
      have HO_461000 := n0_
      have BK448 := n1_
      have BK456 := n2_
      have BK460 := n3_
      have BK464 := n4_
      have HB := n5_
      clear n0_ n1_ n2_ n3_ n4_ n5_
      refine start_ (n := 5) (S := fun w' => w'.cell? ⟨gb460, 0, none⟩ = some (.slice Ao25 t457.length co25) ∧ w'.cell? ⟨gb448, 0, none⟩ = some (.slice A0_0 l0_0.length c0_0)) (ds := []) #[false, false, false, false, false] (by kernel_rfl) rfl rfl ⟨(blk_cell BK460.out 0).trans rfl, (blk_cell BK448.out 0).trans rfl⟩ (fun hHeld => ?_)
      generalize wc.drew = w61 at HO_461000 BK448 BK456 BK460 BK464 HB hHeld ⊢
      refine take_ (i := 0) (N := some 36) (v := ?_) (a' := ?_) #[true, false, false, false, false] rfl rfl (by kernel_rfl) (fun _ _ _ h => h) (Or.inl ⟨by rfl, ?_⟩) hHeld ?_ ?_
      rotate_left
      ·
       rintro w' ⟨s0, s1⟩
       go_simp
       with_reducible rfl
      rotate_left
      ·
       simp only [Act.put, List.setIfInBounds_toArray, List.set_cons_zero, List.set_cons_succ, i64_w, i32_w]
       rfl
      refine take_ (i := 1) (N := some 37) (v := ?_) (a' := ?_) #[true, true, false, false, false] rfl rfl (by kernel_rfl) (fun _ _ _ h => h) (Or.inl ⟨by rfl, ?_⟩) hHeld ?_ ?_
      rotate_left
      ·
       rintro w' ⟨s0, s1⟩
       go_simp
       with_reducible rfl
      rotate_left
      ·
       simp only [Act.put, List.setIfInBounds_toArray, List.set_cons_zero, List.set_cons_succ, i64_w, i32_w]
       rfl
      refine one_ (i := 2) (N := some 38) #[true, true, true, false, false] rfl rfl (by kernel_rfl) (by decide) (fun K hK => ?_)
      refine goes_ Tryz.func8 (by kernel_rfl) rfl #[.agg #[.slice A0_0 l0_0.length c0_0]] (by rfl) rfl rfl (by (try simp only [List.map_toArray, List.map_cons, List.map_nil]); first | done | rfl | (simp only [List.length_drop, List.length_take]; rfl)) ?_
      with_reducible refine (laws_toTrie.calls kj10 _ _ l0_0 t466 _ ?side1 ?side2 A54.out).mono ?_
      (case side1 => repeat (first | exact (Kd.C_below HR0_0.out HB.out) | (with_reducible refine Kd.C_alloc ?_ _) | (with_reducible refine Kd.C_drewN ?_ _) | (with_reducible refine Kd.C_drew ?_)))
      (case side2 => exact HC0_0.out)
      rintro e w62 ⟨v467, rfl, ho0, hb⟩
      refine ⟨_, rfl, ?_⟩
      have n0_ := Aside0.mk (Kd.R_elder' (by (with_reducible repeat (first | apply Kd.R_alloc | apply Kd.R_drewN | apply Kd.R_drew)); exact HO_461000.out) (Kd.R_base ho0) hb)
      have n1_ := Aside0.mk (Kd.R_lower (Kd.R_new' ho0 (Kd.R_lt (by (with_reducible repeat (first | apply Kd.R_alloc | apply Kd.R_drewN | apply Kd.R_drew)); exact HO_461000.out))) (below_size (by repeat (first | (with_reducible first | exact HB.out | apply below_alloc | apply pw_below_drewN | apply below_drew1 | refine below_set ?_ GE448.out | refine below_set ?_ GE456.out | refine below_set ?_ GE460.out | refine below_set ?_ GE464.out) | exact HB.out))))
      have n2_ := Aside0.mk (blk_below (g := gb448) (o := .cells #[.slice A0_0 l0_0.length c0_0] 24 (0, 0)) (by (with_reducible repeat (first | refine blk_drewN ?_ _ | refine blk_drew ?_ | refine blk_alloc ?_ _)); exact BK448.out) hb)
      have n3_ := Aside0.mk (blk_below (g := gb456) (o := .cells #[.int .i64 t453, .int .i64 t454] 38 (0, 0)) (by (with_reducible repeat (first | refine blk_drewN ?_ _ | refine blk_drew ?_ | refine blk_alloc ?_ _)); exact BK456.out) hb)
      have n4_ := Aside0.mk (blk_below (g := gb460) (o := .cells #[.slice Ao25 t457.length co25] 31 (0, 0)) (by (with_reducible repeat (first | refine blk_drewN ?_ _ | refine blk_drew ?_ | refine blk_alloc ?_ _)); exact BK460.out) hb)
      have n5_ := Aside0.mk (blk_below (g := gb464) (o := .cells #[.int .i64 t461, .int .i64 t462] 38 (0, 0)) (by (with_reducible repeat (first | refine blk_drewN ?_ _ | refine blk_drew ?_ | refine blk_alloc ?_ _)); exact BK464.out) hb)
      have n6_ := Aside0.mk (below_step (by repeat (first | (with_reducible first | exact HB.out | apply below_alloc | apply pw_below_drewN | apply below_drew1 | refine below_set ?_ GE448.out | refine below_set ?_ GE456.out | refine below_set ?_ GE460.out | refine below_set ?_ GE464.out) | exact HB.out)) hb)
      clear HO_461000
      clear BK448
      clear BK456
      clear BK460
      clear BK464
      clear HB
      have HO_461000 := n0_
      have HO468 := n1_
      have BK448 := n2_
      have BK456 := n3_
      have BK460 := n4_
      have BK464 := n5_
      have HB := n6_
      clear n0_ n1_ n2_ n3_ n4_ n5_ n6_
      (try clear hb)
      (try clear hb2)
      (try clear hk)
      (try clear hi)
      (try clear ho0)
      obtain ⟨Ao63, co63, eo63⟩ := Kd.R_slice HO468.out
      (first | subst eo63 | (injection eo63 with f1_ f2_ f3_; have f4_ := f1_.symm; have f5_ := f3_.symm; clear f1_ f2_ f3_; subst f4_; subst f5_))
      refine hK.out _ _ ⟨(blk_cell BK460.out 0).trans rfl, (blk_cell BK448.out 0).trans rfl⟩ (fun hHeld => ?_)
      clear hK K
      refine norm_ (a' := ?_) ?_ ?_
      rotate_left
      ·
       show Act.put _ (some 38) _ = _
       simp only [Act.put, List.setIfInBounds_toArray, List.set_cons_zero, List.set_cons_succ, i64_w, i32_w]
       rfl
      refine one_ (i := 3) (N := some 39) #[true, true, true, true, false] rfl rfl (by kernel_rfl) (by decide) (fun K hK => ?_)
      refine goes_ Tryz.func11 (by kernel_rfl) rfl #[.agg #[.slice Ao25 t457.length co25], .agg #[.slice Ao63 t466.length co63]] (by rfl) rfl rfl (by (try simp only [List.map_toArray, List.map_cons, List.map_nil]); first | done | rfl | (simp only [List.length_drop, List.length_take]; rfl)) ?_
      with_reducible refine (laws_eqTrie.calls kj10 _ _ t457 _ _ t466 false _ ?side1 ?side2 ?side3 ?side4 A55.out).mono ?_
      (case side1 => repeat (first | exact (Kd.R_reads' HO_461000.out).2.2 | (with_reducible refine Kd.C_alloc ?_ _) | (with_reducible refine Kd.C_drewN ?_ _) | (with_reducible refine Kd.C_drew ?_)))
      (case side2 => exact (Kd.R_reads' HO_461000.out).2.1)
      (case side3 => repeat (first | exact (Kd.R_reads' HO468.out).2.2 | (with_reducible refine Kd.C_alloc ?_ _) | (with_reducible refine Kd.C_drewN ?_ _) | (with_reducible refine Kd.C_drew ?_)))
      (case side4 => exact (Kd.R_reads' HO468.out).2.1)
      rintro e w64 ⟨rfl, hb⟩
      refine ⟨_, rfl, ?_⟩
      have n0_ := Aside0.mk (Kd.R_below (by (with_reducible repeat (first | apply Kd.R_alloc | apply Kd.R_drewN | apply Kd.R_drew)); exact HO_461000.out) hb)
      have n1_ := Aside0.mk (Kd.R_below (by (with_reducible repeat (first | apply Kd.R_alloc | apply Kd.R_drewN | apply Kd.R_drew)); exact HO468.out) hb)
      have n2_ := Aside0.mk (blk_below (g := gb448) (o := .cells #[.slice A0_0 l0_0.length c0_0] 24 (0, 0)) (by (with_reducible repeat (first | refine blk_drewN ?_ _ | refine blk_drew ?_ | refine blk_alloc ?_ _)); exact BK448.out) hb)
      have n3_ := Aside0.mk (blk_below (g := gb456) (o := .cells #[.int .i64 t453, .int .i64 t454] 38 (0, 0)) (by (with_reducible repeat (first | refine blk_drewN ?_ _ | refine blk_drew ?_ | refine blk_alloc ?_ _)); exact BK456.out) hb)
      have n4_ := Aside0.mk (blk_below (g := gb460) (o := .cells #[.slice Ao25 t457.length co25] 31 (0, 0)) (by (with_reducible repeat (first | refine blk_drewN ?_ _ | refine blk_drew ?_ | refine blk_alloc ?_ _)); exact BK460.out) hb)
      have n5_ := Aside0.mk (blk_below (g := gb464) (o := .cells #[.int .i64 t461, .int .i64 t462] 38 (0, 0)) (by (with_reducible repeat (first | refine blk_drewN ?_ _ | refine blk_drew ?_ | refine blk_alloc ?_ _)); exact BK464.out) hb)
      have n6_ := Aside0.mk (below_step (by repeat (first | (with_reducible first | exact HB.out | apply below_alloc | apply pw_below_drewN | apply below_drew1 | refine below_set ?_ GE448.out | refine below_set ?_ GE456.out | refine below_set ?_ GE460.out | refine below_set ?_ GE464.out) | exact HB.out)) hb)
      clear HO_461000
      clear HO468
      clear BK448
      clear BK456
      clear BK460
      clear BK464
      clear HB
      have HO_461000 := n0_
      have HO468 := n1_
      have BK448 := n2_
      have BK456 := n3_
      have BK460 := n4_
      have BK464 := n5_
      have HB := n6_
      clear n0_ n1_ n2_ n3_ n4_ n5_ n6_
      (try clear hb)
      (try clear hb2)
      (try clear hk)
      (try clear hi)
      refine hK.out _ _ ⟨(blk_cell BK460.out 0).trans rfl, (blk_cell BK448.out 0).trans rfl⟩ (fun hHeld => ?_)
      clear hK K
      refine norm_ (a' := ?_) ?_ ?_
      rotate_left
      ·
       show Act.put _ (some 39) _ = _
       simp only [Act.put, List.setIfInBounds_toArray, List.set_cons_zero, List.set_cons_succ, i64_w, i32_w]
       rfl
      refine pure_ (i := 4) (N := some 40) (v := ?_) (a' := ?_) #[true, true, true, true, true] rfl rfl (by kernel_rfl) (fun _ _ _ h => h) (Or.inl ⟨by rfl, ?_⟩) ?_ ?_
      rotate_left
      ·
       intro w'
       go_simp
       with_reducible rfl
      rotate_left
      ·
       simp only [Act.put, List.setIfInBounds_toArray, List.set_cons_zero, List.set_cons_succ, i64_w, i32_w]
       rfl
      refine done_ (by kernel_rfl) ?_
      try go_wp2
      go_ret
      exact ⟨by first | rfl | (simp [errW_none, errW_some] <;> rfl) | (simp [*, errW_none, errW_some] <;> rfl), by repeat (first | (with_reducible first | exact HB.out | apply below_alloc | apply pw_below_drewN | apply below_drew1 | refine below_set ?_ GE448.out | refine below_set ?_ GE456.out | refine below_set ?_ GE460.out | refine below_set ?_ GE464.out) | exact HB.out)⟩
def laws_FnExactMeanUnique.Pure : Prop := ∀ (l0_0 : List S67), l0_0.length ≤ 9223372036854775807 → ∃ k, laws_FnExactMeanUnique.f k l0_0 = some true
theorem laws_FnExactMeanUnique.walk (P : laws_FnExactMeanUnique.Pure) (w : World) (A0 : Option Addr) (c0 : Nat) (l0_0 : List S67) (hr0 : Kd.C k67 w A0 l0_0.length l0_0) (hc0 : l0_0.length ≤ c0) :
  Calls Tryz.prog 4 #[.agg #[.slice A0 l0_0.length c0]] w fun e w' => e = .returned (.bool true) ∧ Below w.heap.size w w' := by
 obtain ⟨k, h⟩ := P l0_0 hr0.2.1
 refine (laws_FnExactMeanUnique.calls k _ _ l0_0 true w hr0 hc0 h).mono ?_
 rintro e w' ⟨rfl, hd⟩
 exact ⟨rfl, hd⟩
end Go.Proofs.YtpgobnhklnglhaaGreatDoor.P
namespace Go.Proofs.YtpgobnhklnglhaaGreatDoor.M
theorem txt_lt_snoc : ∀ (p : Txt) (x : UInt8), p < p ++ [x]
 | [], x => List.nil_lt_cons x []
 | a :: p, x => List.cons_lt_cons_iff.2 (.inr ⟨rfl, txt_lt_snoc p x⟩)
theorem dropLast_getD (p : Txt) (h : p ≠ []) : p.dropLast ++ [p.getD (p.length - 1) 0] = p := by
 have h0 := List.length_pos_iff.2 h
 have h1 : p.length - 1 < p.length := by omega
 rw [List.dropLast_eq_take, getD_lt 0 h1, ← List.take_succ_eq_append_getElem h1, List.take_of_length_le (by omega)]
theorem txt_dropLast_lt (p : Txt) (h : p ≠ []) : p.dropLast < p := by
 have := txt_lt_snoc p.dropLast (p.getD (p.length - 1) 0)
 rwa [dropLast_getD p h] at this
def Clo (P : List Txt) : Prop := [] ∈ P ∧ ∀ p ∈ P, p ≠ [] → p.dropLast ∈ P
def begs (w : Txt) : List Txt := (List.range w.length).map fun n => w.take (n + 1)
def preL (ws : List Txt) : List Txt := setL ([] :: ws.flatMap begs)
theorem mem_begs {w p : Txt} : p ∈ begs w ↔ p ≠ [] ∧ p <+: w := by
 constructor
 ·
  intro h
  obtain ⟨n, hn, rfl⟩ := List.mem_map.1 h
  rw [List.mem_range] at hn
  exact ⟨fun e => by have := congrArg List.length e; rw [List.length_take, List.length_nil] at this; omega, List.take_prefix _ _⟩
 ·
  rintro ⟨h1, h2⟩
  have h3 := h2.length_le
  have h4 := List.length_pos_iff.2 h1
  refine List.mem_map.2 ⟨p.length - 1, List.mem_range.2 (by omega), ?_⟩
  rw [show p.length - 1 + 1 = p.length from by omega]
  exact (List.prefix_iff_eq_take.1 h2).symm
theorem mem_preL {ws : List Txt} {p : Txt} : p ∈ preL ws ↔ p = [] ∨ ∃ w ∈ ws, p ≠ [] ∧ p <+: w := by
 unfold preL
 rw [mem_setL, List.mem_cons, List.mem_flatMap]
 simp only [mem_begs]
theorem clo_preL (ws : List Txt) : Clo (preL ws) := by
 refine ⟨mem_preL.2 (.inl rfl), fun p hp hne => ?_⟩
 rcases mem_preL.1 hp with rfl | ⟨w, hw, _, h⟩
 ·
  exact absurd rfl hne
 ·
  by_cases h0 : p.dropLast = []
  ·
   rw [h0]; exact mem_preL.2 (.inl rfl)
  ·
   exact mem_preL.2 (.inr ⟨w, hw, h0, (List.dropLast_prefix p).trans h⟩)
theorem asc_preL (ws : List Txt) : Asc (preL ws) := asc_setL _
theorem self_preL {ws : List Txt} {w : Txt} (h : w ∈ ws) : w ∈ preL ws := by
 by_cases h0 : w = []
 ·
  rw [h0]; exact mem_preL.2 (.inl rfl)
 ·
  exact mem_preL.2 (.inr ⟨w, h, h0, List.prefix_refl _⟩)
theorem preL_congr {ws vs : List Txt} (h : ∀ w, w ∈ ws ↔ w ∈ vs) : preL ws = preL vs :=
 asc_ext _ _ (asc_preL _) (asc_preL _) fun y => by rw [mem_preL, mem_preL]; simp only [h]
theorem foldl_putL_len : ∀ (l acc : List Txt), (l.foldl putL acc).length ≤ acc.length + l.length
 | [], _ => Nat.le_refl _
 | x :: l, acc => by
  have h1 := foldl_putL_len l (putL acc x)
  have h2 := putL_length_le acc x
  rw [List.foldl_cons, List.length_cons]; omega
theorem setL_length_le (l : List Txt) : (setL l).length ≤ l.length := by have := foldl_putL_len l []; simpa [setL] using this
theorem begs_length (w : Txt) : (begs w).length = w.length := by simp [begs]
theorem flatMap_begs_length : ∀ (ws : List Txt), (∀ w ∈ ws, w.length ≤ 12) → (ws.flatMap begs).length ≤ 12 * ws.length
 | [], _ => by simp
 | w :: ws, h => by
  have h1 := flatMap_begs_length ws fun x hx => h x (List.mem_cons_of_mem _ hx)
  have h2 := h w (by simp)
  rw [List.flatMap_cons, List.length_append, begs_length, List.length_cons]; omega
theorem preL_length {ws : List Txt} (h : ∀ w ∈ ws, w.length ≤ 12) : (preL ws).length ≤ 12 * ws.length + 1 := by
 have h1 := flatMap_begs_length ws h
 have h2 := setL_length_le ([] :: ws.flatMap begs)
 unfold preL
 rw [List.length_cons] at h2
 omega
def placeL : List Txt → Txt → Nat
 | [], _ => 0
 | x :: r, p => if x = p then 0 else placeL r p + 1
theorem placeL_le : ∀ (P : List Txt) (p : Txt), placeL P p ≤ P.length
 | [], _ => Nat.le_refl _
 | x :: r, p => by
  have := placeL_le r p
  by_cases h : x = p
  ·
   simp [placeL, h]
  ·
   simp only [placeL, if_neg h, List.length_cons]; omega
theorem placeL_mem : ∀ {P : List Txt} {p : Txt}, p ∈ P → placeL P p < P.length ∧ P.getD (placeL P p) [] = p
 | [], _, h => by simp at h
 | x :: r, p, h => by
  by_cases h0 : x = p
  ·
   simp [placeL, h0]
  ·
   have h1 : p ∈ r := by
    rcases List.mem_cons.1 h with e | e
    ·
     exact absurd e.symm h0
    ·
     exact e
   obtain ⟨h2, h3⟩ := placeL_mem h1
   simp only [placeL, if_neg h0, List.length_cons]
   exact ⟨by omega, by simpa using h3⟩
theorem getD_mem {P : List Txt} {i : Nat} (h : i < P.length) : P.getD i [] ∈ P := by rw [getD_lt [] h]; exact List.getElem_mem h
theorem asc_get {P : List Txt} (hA : Asc P) {i j : Nat} (hj : j < P.length) (hij : i < j) : P.getD i [] < P.getD j [] := by
 have := List.pairwise_iff_getElem.1 hA i j (by omega) hj hij
 rwa [getD_lt [] hj, getD_lt [] (show i < P.length by omega)]
theorem asc_get_lt {P : List Txt} (hA : Asc P) {i j : Nat} (hi : i < P.length) (hj : j < P.length) (h : P.getD i [] < P.getD j []) : i < j := by
 rcases Nat.lt_trichotomy i j with h1 | h1 | h1
 ·
  exact h1
 ·
  subst h1; exact absurd h (txt_irrefl _)
 ·
  exact absurd (asc_get hA hi h1) (txt_asymm h)
theorem asc_inj {P : List Txt} (hA : Asc P) {i j : Nat} (hi : i < P.length) (hj : j < P.length) (h : P.getD i [] = P.getD j []) : i = j := by
 rcases Nat.lt_trichotomy i j with h1 | h1 | h1
 ·
  exact absurd (h ▸ asc_get hA hj h1) (txt_irrefl _)
 ·
  exact h1
 ·
  exact absurd (h ▸ asc_get hA hi h1) (txt_irrefl _)
theorem placeL_get {P : List Txt} (hA : Asc P) {i : Nat} (hi : i < P.length) : placeL P (P.getD i []) = i := by
 obtain ⟨h1, h2⟩ := placeL_mem (getD_mem hi)
 exact asc_inj hA h1 hi h2
theorem clo_zero {P : List Txt} (hA : Asc P) (hC : Clo P) : 0 < P.length ∧ P.getD 0 [] = [] := by
 obtain ⟨h1, h2⟩ := placeL_mem hC.1
 refine ⟨by omega, ?_⟩
 rcases Nat.eq_zero_or_pos (placeL P []) with h0 | h0
 ·
  rwa [h0] at h2
 ·
  have := asc_get hA h1 h0
  rw [h2] at this
  exact absurd this (List.not_lt_nil _)
theorem clo_pos {P : List Txt} (hA : Asc P) (hC : Clo P) {i : Nat} (hi : i < P.length) (h0 : 0 < i) : P.getD i [] ≠ [] := fun e => by
 obtain ⟨h1, h2⟩ := clo_zero hA hC
 have := asc_inj hA hi h1 (e.trans h2.symm)
 omega
theorem clo_parent {P : List Txt} (hA : Asc P) (hC : Clo P) {i : Nat} (hi : i < P.length) (h0 : 0 < i) :
  placeL P (P.getD i []).dropLast < i ∧ P.getD (placeL P (P.getD i []).dropLast) [] = (P.getD i []).dropLast := by
 have hne := clo_pos hA hC hi h0
 obtain ⟨h1, h2⟩ := placeL_mem (hC.2 _ (getD_mem hi) hne)
 exact ⟨asc_get_lt hA h1 hi (by rw [h2]; exact txt_dropLast_lt _ hne), h2⟩
def ltrOf (p : Txt) : Int := (((p.getD (p.length - 1) 0).toNat : Int) - 97) % 256
def ndL (P ws : List Txt) (p : Txt) : Int × Int × Bool := (if p = [] then -1 else ltrOf p, if p = [] then -1 else (placeL P p.dropLast : Int), decide (p ∈ ws))
def nodesL (P ws : List Txt) : List (Int × Int × Bool) := P.map (ndL P ws)
def wordL (w : Txt) : Bool := w.all letterB && decide (w.length ≤ 12)
structure OkW (ws : List Txt) : Prop where
 asc : Asc ws
 len : ws.length ≤ 40
 word : ∀ w ∈ ws, wordL w = true
theorem wordL_iff {w : Txt} : wordL w = true ↔ (∀ c ∈ w, letterB c = true) ∧ w.length ≤ 12 := by
 unfold wordL
 rw [Bool.and_eq_true, List.all_eq_true, decide_eq_true_eq]
theorem OkW.le {ws : List Txt} (h : OkW ws) : ∀ w ∈ ws, w.length ≤ 12 := fun w hw => (wordL_iff.1 (h.word w hw)).2
theorem OkW.pre {ws : List Txt} (h : OkW ws) : (preL ws).length ≤ 481 := by
 have h1 := preL_length h.le
 have h2 := h.len
 omega
theorem wordL_pre {p w : Txt} (h : p <+: w) (hw : wordL w = true) : wordL p = true := by
 obtain ⟨h1, h2⟩ := wordL_iff.1 hw
 exact wordL_iff.2 ⟨fun c hc => h1 c (h.subset hc), Nat.le_trans h.length_le h2⟩
theorem preL_word {ws : List Txt} (h : ∀ w ∈ ws, wordL w = true) {p : Txt} (hp : p ∈ preL ws) : wordL p = true := by
 rcases mem_preL.1 hp with rfl | ⟨w, hw, _, h1⟩
 ·
  rfl
 ·
  exact wordL_pre h1 (h w hw)
theorem letter_bd {c : UInt8} (h : letterB c = true) : 97 ≤ c.toNat ∧ c.toNat ≤ 122 := by simpa [letterB] using h
theorem getLast_mem {p : Txt} (h : p ≠ []) : p.getD (p.length - 1) 0 ∈ p := by
 have := List.length_pos_iff.2 h
 rw [getD_lt 0 (show p.length - 1 < p.length by omega)]
 exact List.getElem_mem _
theorem ltrOf_bd {p : Txt} (hw : wordL p = true) (h : p ≠ []) : ltrOf p = ((p.getD (p.length - 1) 0).toNat : Int) - 97 ∧ 0 ≤ ltrOf p ∧ ltrOf p ≤ 25 := by
 have h1 := letter_bd ((wordL_iff.1 hw).1 _ (getLast_mem h))
 unfold ltrOf
 omega
theorem filter_preL {ws : List Txt} (h : Asc ws) : (preL ws).filter (fun p => decide (p ∈ ws)) = ws := by
 refine asc_ext _ _ ((asc_preL ws).filter _) h fun y => ?_
 rw [List.mem_filter, decide_eq_true_eq]
 exact ⟨fun h => h.2, fun h => ⟨self_preL h, h⟩⟩
end Go.Proofs.YtpgobnhklnglhaaGreatDoor.M
namespace Go.Proofs.YtpgobnhklnglhaaGreatDoor.M
open Go.RowKit Go.Proofs.YtpgobnhklnglhaaGreatDoorW.PrintWords
theorem rdB (l : List Txt) (n : Nat) (h : n < l.length) : rdOf ByteArray.empty (l.map B) (n : Int) = B (l.getD n []) := by
 simp [rdOf, List.getD_eq_getElem?_getD, h]
theorem exBs (l : List ByteArray) : ∃ m : List Txt, l = m.map B := ⟨l.map fun x => x.data.toList, by rw [List.map_map]; exact ((List.map_congr_left (fun x _ => B_data x)).trans (List.map_id _)).symm⟩
theorem map_B_inj {l m : List Txt} (h : l.map B = m.map B) : l = m := (List.map_inj_right (fun _ _ h => B_inj h)).1 h
end Go.Proofs.YtpgobnhklnglhaaGreatDoor.M
namespace Go.Proofs.YtpgobnhklnglhaaGreatDoor.M
def hasPre (s p : List UInt8) : Bool := s.take p.length == p
end Go.Proofs.YtpgobnhklnglhaaGreatDoor.M
namespace Go.Proofs.YtpgobnhklnglhaaGreatDoor.L
open Go.RowKit Go.Proofs.YtpgobnhklnglhaaGreatDoor.P Go.Proofs.YtpgobnhklnglhaaGreatDoor.M Go.Proofs.YtpgobnhklnglhaaGreatDoorW.PrintWords Go.Proofs.YtpgobnhklnglhaaGreatDoorW.PrintLast Go.Proofs.YtpgobnhklnglhaaGreatDoorW.PrintMore
set_option linter.unusedVariables false
theorem HasPrefix_eq (s p : List UInt8) (hs : s.length ≤ 4611686018427387900) (hp : p.length ≤ 4611686018427387900) : strings_HasPrefix.f (B s) (B p) = some (hasPre s p) := by
 unfold strings_HasPrefix.f stringslite_HasPrefix.f hasPre
 by_cases h : p.length ≤ s.length
 ·
  rw [if_pos (by simp; omega), if_pos (by omega), if_pos (by simp; omega)]; simp
 ·
  rw [if_neg (by simp; omega)]
  have : (s.take p.length == p) = false := by
   simp only [beq_eq_false_iff_ne]
   intro e
   have := congrArg List.length e
   simp at this; omega
  simp [this]
theorem begins_eq (w p : Txt) (hw : w.length ≤ 4611686018427387900) : spec_l2Begins.f (B w) (B p) = some (hasPre w p) := by
 unfold spec_l2Begins.f hasPre
 by_cases h : p.length ≤ w.length
 ·
  rw [if_pos (by simp; omega), if_pos (by omega), if_pos (by simp; omega)]; simp
 ·
  rw [if_neg (by simp; omega)]
  have : (w.take p.length == p) = false := by
   simp only [beq_eq_false_iff_ne]
   intro e
   have := congrArg List.length e
   simp at this; omega
  simp [this]
end Go.Proofs.YtpgobnhklnglhaaGreatDoor.L
namespace Go.Proofs.YtpgobnhklnglhaaGreatDoor.M
open Go.Lib
theorem keeps_iff (d : Array Txt) (j : Nat) : keeps d j = true ↔ (j = 0 ∨ d[j]! ≠ d[j - 1]!) := by simp [keeps]
theorem mem_compact (zs : List Txt) (y : Txt) : y ∈ compact zs ↔ y ∈ zs := by
 unfold compact compactUpTo
 simp only [List.mem_map, List.mem_filter, List.mem_range]
 constructor
 ·
  rintro ⟨j, ⟨hj, _⟩, rfl⟩
  rw [getElem!_pos zs.toArray j (by simpa using hj)]
  simp
 ·
  intro hy
  have hex : ∃ n, ∃ h : n < zs.length, zs[n] = y := by
   obtain ⟨n, h, e⟩ := List.mem_iff_getElem.1 hy
   exact ⟨n, h, e⟩
  have key : ∀ n, (∃ h : n < zs.length, zs[n] = y) → ∃ m, m < zs.length ∧ keeps zs.toArray m = true ∧ zs.toArray[m]! = y := by
   intro n
   induction n with
   | zero => rintro ⟨h, e⟩; exact ⟨0, h, (keeps_iff _ _).2 (.inl rfl), by rw [getElem!_pos zs.toArray 0 (by simpa using h)]; simpa using e⟩
   | succ n ih =>
    rintro ⟨h, e⟩
    have e1 : zs.toArray[n + 1]! = y := by rw [getElem!_pos zs.toArray (n + 1) (by simpa using h)]; simpa using e
    by_cases hk : keeps zs.toArray (n + 1) = true
    ·
     exact ⟨n + 1, h, hk, e1⟩
    ·
     have : zs.toArray[n + 1]! = zs.toArray[n]! := by
      by_cases h9 : zs.toArray[n + 1]! = zs.toArray[n]!
      ·
       exact h9
      ·
       exact absurd ((keeps_iff _ _).2 (.inr h9)) hk
     refine ih ⟨by omega, ?_⟩
     have h2 : zs.toArray[n]! = zs[n] := by rw [getElem!_pos zs.toArray n (by simp; omega)]; simp
     rw [← h2, ← this, e1]
  obtain ⟨n, h⟩ := hex
  obtain ⟨m, h1, h2, h3⟩ := key n h
  exact ⟨m, ⟨h1, h2⟩, h3⟩
theorem pair_get {zs : List Txt} (h : zs.Pairwise (fun a b => decide (a ≤ b) = true)) {i j : Nat} (hij : i < j) (hj : j < zs.length) : zs.toArray[i]! ≤ zs.toArray[j]! := by
 have := List.pairwise_iff_getElem.1 h i j (by omega) hj hij
 rw [getElem!_pos zs.toArray i (by simp; omega), getElem!_pos zs.toArray j (by simpa using hj)]
 simpa using this
theorem asc_compact {zs : List Txt} (h : zs.Pairwise (fun a b => decide (a ≤ b) = true)) : Asc (compact zs) := by
 unfold Asc compact compactUpTo
 rw [List.pairwise_map]
 have h1 : ((List.range zs.length).filter (keeps zs.toArray)).Pairwise (· < ·) := List.Pairwise.filter _ List.pairwise_lt_range
 refine List.Pairwise.imp_of_mem ?_ h1
 intro a b ha hb hab
 rw [List.mem_filter, List.mem_range] at ha hb
 have hk := (keeps_iff _ _).1 hb.2
 have hne : zs.toArray[b]! ≠ zs.toArray[b - 1]! := by
  rcases hk with h0 | h0
  ·
   omega
  ·
   exact h0
 have h2 : zs.toArray[b - 1]! ≤ zs.toArray[b]! := pair_get h (by omega) hb.1
 have h3 : zs.toArray[a]! ≤ zs.toArray[b - 1]! := by
  by_cases e : a = b - 1
  ·
   subst e; exact List.le_refl _
  ·
   exact pair_get h (by omega) (by omega)
 have h4 : zs.toArray[b - 1]! < zs.toArray[b]! := by
  by_cases hlt : zs.toArray[b - 1]! < zs.toArray[b]!
  ·
   exact hlt
  ·
   exact absurd (List.le_antisymm (List.not_lt.1 hlt) h2) hne
 exact List.lt_of_le_of_lt h3 h4
theorem sorted_compact (l : List Txt) : compact (l.mergeSort fun x y => decide (x ≤ y)) = setL l := by
 have hp : (l.mergeSort fun x y => decide (x ≤ y)).Pairwise (fun a b => decide (a ≤ b) = true) := by
  refine List.pairwise_mergeSort ?_ ?_ l
  ·
   intro a b c h1 h2
   simp only [decide_eq_true_eq] at h1 h2 ⊢
   exact List.le_trans h1 h2
  ·
   intro a b
   simp only [Bool.or_eq_true, decide_eq_true_eq]
   exact List.le_total a b
 refine asc_ext _ _ (asc_compact hp) (asc_setL l) fun y => ?_
 rw [mem_compact, List.mem_mergeSort, mem_setL]
end Go.Proofs.YtpgobnhklnglhaaGreatDoor.M
namespace Go.Proofs.YtpgobnhklnglhaaGreatDoor.L
open Go.RowKit Go.Proofs.YtpgobnhklnglhaaGreatDoor.P Go.Proofs.YtpgobnhklnglhaaGreatDoor.M Go.Proofs.YtpgobnhklnglhaaGreatDoorW.PrintWords Go.Proofs.YtpgobnhklnglhaaGreatDoorW.PrintLast Go.Proofs.YtpgobnhklnglhaaGreatDoorW.PrintMore
set_option linter.unusedVariables false
theorem map_data (l : List Txt) : (l.map B).map (fun x => x.data.toList) = l := by
 rw [List.map_map]
 exact (List.map_congr_left (fun x _ => data_B x)).trans (List.map_id _)
theorem l2Put_eq (l : List Txt) (w : Txt) (h : l.length ≤ 4294967296) (h2 : ∀ x ∈ l, x.length ≤ 4611686018427387900) : spec_l2Put.f (l.map B) (B w) = some ((putL l w).map B) := by
 have hall : ((l.map B).all fun x => decide (x.size ≤ 4611686018427387900)) = true := List.all_eq_true.2 fun x hx => by
  obtain ⟨y, hy, rfl⟩ := List.mem_map.1 hx
  simpa using h2 y hy
 unfold spec_l2Put.f
 rw [map_data, data_B, if_pos ⟨by simpa using h, hall⟩]
theorem set_eq (l : List Txt) (h : l.length ≤ 4294967296) : impl_set.f (l.map B) = some ((setL l).map B) := by
 unfold impl_set.f
 rw [if_pos (by simpa using h), map_data, sorted_compact]
 rfl
theorem l1In_eq (a b c : Int) : spec_l1In.f a b c = some (decide (b ≤ a ∧ a ≤ c)) := by
 unfold spec_l1In.f
 by_cases h : b ≤ a
 ·
  rw [if_pos (by omega)]; simp [h]
 ·
  rw [if_neg (by omega)]; simp [h]
instance : DecidableEq S64 := fun a b => if h : a.f0 = b.f0 ∧ a.f1 = b.f1 ∧ a.f2 = b.f2 then isTrue (by obtain ⟨a0, a1, a2⟩ := a; obtain ⟨b0, b1, b2⟩ := b; obtain ⟨h1, h2, h3⟩ := h; simp only at h1 h2 h3; subst h1 h2 h3; rfl) else isFalse (fun e => h (by rw [e]; exact ⟨rfl, rfl, rfl⟩))
def mkN (x : Int × Int × Bool) : S64 := ⟨x.1, x.2.1, x.2.2⟩
def trN (P ws : List Txt) : List S64 := (nodesL P ws).map mkN
theorem trN_length (P ws : List Txt) : (trN P ws).length = P.length := by simp [trN, nodesL]
theorem rdN (P ws : List Txt) (i : Nat) (h : i < P.length) : rd_T64 (trN P ws) (i : Int) = mkN (ndL P ws (P.getD i [])) := by
 unfold rd_T64 trN nodesL
 rw [Int.toNat_natCast, getD_lt _ (by simpa using h), getD_lt _ h]
 simp
theorem strOfNums_B (n : Int) : strOfNums [n] = B [UInt8.ofNat n.toNat] := rfl
theorem letter_back {p : Txt} (hw : wordL p = true) (h : p ≠ []) : strOfNums [(wrap64 (97 + ltrOf p)) % 256] = B [p.getD (p.length - 1) 0] := by
 obtain ⟨h1, h2, h3⟩ := ltrOf_bd hw h
 have h4 := letter_bd ((wordL_iff.1 hw).1 _ (getLast_mem h))
 rw [strOfNums_B]
 congr 2
 have e : (wrap64 (97 + ltrOf p) % 256).toNat = (p.getD (p.length - 1) 0).toNat := by rw [wrap64_id (by omega) (by omega)]; omega
 rw [e]
 simp
theorem l2Word_loop (l : Txt) (hl : l.length ≤ 4611686018427387903) : ∀ (d n : Nat), n + d = l.length → Ev (fun k => spec_l2Word.l0 k (B l) (n : Int)) ((l.drop n).all letterB && decide (l.length ≤ 12)) := by
 have last : ∀ n : Nat, Ev (fun k => spec_l2Word.j1 k (B l) (n : Int) false) (decide (l.length ≤ 12)) := by
  intro n
  refine Ev.step (fun k => spec_l2Word.j1.eq_2 ..) (Ev.ifF (by simp) ?_)
  have : decide (((B l).size : Int) ≤ 12) = decide (l.length ≤ 12) := by simp; omega
  rw [this]; exact Ev.now _
 intro d
 induction d with
 | zero =>
  intro n hn
  refine Ev.step (fun k => spec_l2Word.l0.eq_2 ..) (Ev.ifF (by simp; omega) ?_)
  rw [List.drop_of_length_le (by omega)]; simpa using last n
 | succ d ih =>
  intro n hn
  have h1 : n < l.length := by omega
  refine Ev.step (fun k => spec_l2Word.l0.eq_2 ..) (Ev.ifT (by simp; omega) ?_)
  rw [drop_cons_getD 0 h1]
  by_cases h16 : n ≤ 12
  ·
   rw [show decide ((n : Int) ≤ 12) = true from by simp; omega]
   refine Ev.step (fun k => spec_l2Word.j1.eq_2 ..) (Ev.ifT rfl (Ev.ifT (by omega) (Ev.ifT (by simp; omega) ?_)))
   simp only [bt_B l n h1]
   by_cases ha : ((l.getD n 0).toNat : Int) < 97
   ·
    refine Ev.ifT ha ?_
    have : letterB (l.getD n 0) = false := by simp only [letterB, decide_eq_false_iff_not]; omega
    simpa only [List.all_cons, this, Bool.false_and] using Ev.now false
   refine Ev.ifF ha ?_
   by_cases hz : ((l.getD n 0).toNat : Int) > 122
   ·
    refine Ev.ifT hz ?_
    have : letterB (l.getD n 0) = false := by simp only [letterB, decide_eq_false_iff_not]; omega
    simpa only [List.all_cons, this, Bool.false_and] using Ev.now false
   refine Ev.ifF hz ?_
   have : letterB (l.getD n 0) = true := by simp only [letterB, decide_eq_true_eq]; omega
   simpa only [wrap64_succ n (by omega), List.all_cons, this, Bool.true_and] using ih (n + 1) (by omega)
  ·
   rw [show decide ((n : Int) ≤ 12) = false from by simp; omega]
   have : ((l.getD n 0 :: l.drop (n + 1)).all letterB && decide (l.length ≤ 12)) = decide (l.length ≤ 12) := by
    have : decide (l.length ≤ 12) = false := by simp; omega
    rw [this]; simp
   rw [this]; exact last n
theorem l2Word_ev (l : Txt) (hl : l.length ≤ 4611686018427387903) : Ev (fun k => spec_l2Word.f k (B l)) (wordL l) := by
 simpa [spec_l2Word.f, wordL] using l2Word_loop l hl l.length 0 (by omega)
theorem l2Prefix_last (x1 : Int) (s : Txt) (N : List S64) : Ev (fun k => spec_l2Prefix.j1 k x1 (B s) false N) (if x1 = 0 then B s else B [63]) := by
 refine Ev.step (fun k => spec_l2Prefix.j1.eq_2 ..) (Ev.ifF (by simp) ?_)
 by_cases h : x1 = 0
 ·
  have e : (if x1 = 0 then B s else B [63]) = B s := if_pos h
  rw [e]; exact Ev.ifT h (Ev.now _)
 ·
  have e : (if x1 = 0 then B s else B [63]) = B [63] := if_neg h
  rw [e]; exact Ev.ifF h (Ev.now _)
theorem l2Prefix_ex (N : List S64) : ∀ (d : Nat) (x1 : Int) (s : Txt), x1.toNat ≤ d → x1 < N.length → s.length ≤ 13 → ∃ r : Txt, r.length ≤ 13 ∧ Ev (fun k => spec_l2Prefix.l0 k x1 (B s) N) (B r) := by
 have low : ∀ (x1 : Int) (s : Txt), x1 ≤ 0 → s.length ≤ 13 → ∃ r : Txt, r.length ≤ 13 ∧ Ev (fun k => spec_l2Prefix.l0 k x1 (B s) N) (B r) := by
  intro x1 s h1 h2
  have hl := l2Prefix_last x1 s N
  by_cases h : x1 = 0
  ·
   rw [if_pos h] at hl; exact ⟨s, h2, Ev.step (fun k => spec_l2Prefix.l0.eq_2 ..) (Ev.ifF (by omega) hl)⟩
  ·
   rw [if_neg h] at hl; exact ⟨[63], by simp, Ev.step (fun k => spec_l2Prefix.l0.eq_2 ..) (Ev.ifF (by omega) hl)⟩
 intro d
 induction d with
 | zero => intro x1 s h1 h2 h3; exact low x1 s (by omega) h3
 | succ d ih =>
  intro x1 s h1 h2 h3
  by_cases hp : x1 ≤ 0
  ·
   exact low x1 s hp h3
  by_cases h12 : s.length ≤ 12
  ·
   have hd : decide (((B s).size : Int) ≤ 12) = true := by simp; omega
   by_cases hin : (0 : Int) ≤ (rd_T64 N x1).f0 ∧ (rd_T64 N x1).f0 ≤ 25
   ·
    by_cases hpar : (rd_T64 N x1).f1 ≥ x1
    ·
     refine ⟨[63], by simp, Ev.step (fun k => spec_l2Prefix.l0.eq_2 ..) (Ev.ifT (by omega) ?_)⟩
     rw [hd]
     refine Ev.step (fun k => spec_l2Prefix.j1.eq_2 ..) (Ev.ifT rfl (Ev.ifT (by omega) (Ev.ifT h2 ?_)))
     rw [l1In_eq, decide_eq_true hin]
     exact Ev.some_bind (Ev.ifT rfl (Ev.ifT hpar (Ev.now _)))
    ·
     obtain ⟨r, hr, he⟩ := ih (rd_T64 N x1).f1 (UInt8.ofNat ((wrap64 (97 + (rd_T64 N x1).f0)) % 256).toNat :: s) (by omega) (by omega) (by simp; omega)
     refine ⟨r, hr, Ev.step (fun k => spec_l2Prefix.l0.eq_2 ..) (Ev.ifT (by omega) ?_)⟩
     rw [hd]
     refine Ev.step (fun k => spec_l2Prefix.j1.eq_2 ..) (Ev.ifT rfl (Ev.ifT (by omega) (Ev.ifT h2 ?_)))
     rw [l1In_eq, decide_eq_true hin]
     refine Ev.some_bind (Ev.ifT rfl (Ev.ifF hpar (Ev.some_bind ?_)))
     rw [strOfNums_B, append_B]
     exact Ev.ifT (by simp; omega) he
   ·
    refine ⟨[63], by simp, Ev.step (fun k => spec_l2Prefix.l0.eq_2 ..) (Ev.ifT (by omega) ?_)⟩
    rw [hd]
    refine Ev.step (fun k => spec_l2Prefix.j1.eq_2 ..) (Ev.ifT rfl (Ev.ifT (by omega) (Ev.ifT h2 ?_)))
    rw [l1In_eq, decide_eq_false hin]
    exact Ev.some_bind (Ev.ifF (by simp) (Ev.now _))
  ·
   have hd : decide (((B s).size : Int) ≤ 12) = false := by simp; omega
   refine ⟨[63], by simp, Ev.step (fun k => spec_l2Prefix.l0.eq_2 ..) (Ev.ifT (by omega) ?_)⟩
   rw [hd]
   have hl := l2Prefix_last x1 s N
   rwa [if_neg (by omega)] at hl
theorem l2Prefix_up {P : List Txt} (ws : List Txt) (hA : Asc P) (hC : Clo P) (hW : ∀ p ∈ P, wordL p = true) : ∀ (n : Nat) (p s : Txt), p.length = n → p ∈ P → (p ++ s).length ≤ 12 → Ev (fun k => spec_l2Prefix.l0 k (placeL P p : Int) (B s) (trN P ws)) (B (p ++ s)) := by
 intro n
 induction n with
 | zero =>
  intro p s h1 h2 h3
  have hp : p = [] := List.eq_nil_of_length_eq_zero h1
  subst hp
  obtain ⟨z1, z2⟩ := clo_zero hA hC
  have hz : placeL P [] = 0 := by have := placeL_get hA z1; rwa [z2] at this
  rw [hz]
  have hl := l2Prefix_last ((0 : Nat) : Int) s (trN P ws)
  exact Ev.step (fun k => spec_l2Prefix.l0.eq_2 ..) (Ev.ifF (by simp) (by simpa using hl))
 | succ n ih =>
  intro p s h1 h2 h3
  have hne : p ≠ [] := fun e => by rw [e] at h1; simp at h1
  obtain ⟨i1, i2⟩ := placeL_mem h2
  have i3 : 0 < placeL P p := by
   rcases Nat.eq_zero_or_pos (placeL P p) with h0 | h0
   ·
    rw [h0, (clo_zero hA hC).2] at i2; exact absurd i2.symm hne
   ·
    exact h0
  obtain ⟨j1, j2⟩ := clo_parent hA hC i1 i3
  rw [i2] at j1 j2
  have hsl : s.length ≤ 12 := by rw [List.length_append] at h3; omega
  have hd : decide (((B s).size : Int) ≤ 12) = true := by simp; omega
  have hf : rd_T64 (trN P ws) (placeL P p : Int) = ⟨ltrOf p, (placeL P p.dropLast : Int), decide (p ∈ ws)⟩ := by
   rw [rdN P ws _ i1, i2]; unfold mkN ndL; rw [if_neg hne, if_neg hne]
  obtain ⟨_, b1, b2⟩ := ltrOf_bd (hW p h2) hne
  refine Ev.step (fun k => spec_l2Prefix.l0.eq_2 ..) (Ev.ifT (by omega) ?_)
  rw [hd]
  refine Ev.step (fun k => spec_l2Prefix.j1.eq_2 ..) (Ev.ifT rfl (Ev.ifT (by omega) (Ev.ifT (by rw [trN_length]; omega) ?_)))
  rw [hf, l1In_eq, decide_eq_true ⟨b1, b2⟩]
  refine Ev.some_bind (Ev.ifT rfl (Ev.ifF (by show ¬ ((placeL P p.dropLast : Nat) : Int) ≥ ((placeL P p : Nat) : Int); omega) (Ev.some_bind ?_)))
  rw [letter_back (hW p h2) hne, append_B]
  have hpd : p.dropLast.length = n := by rw [List.length_dropLast]; omega
  have e1 : p.dropLast ++ ([p.getD (p.length - 1) 0] ++ s) = p ++ s := by rw [← List.append_assoc, dropLast_getD p hne]
  refine Ev.ifT (by simp; omega) ?_
  have := ih p.dropLast ([p.getD (p.length - 1) 0] ++ s) hpd (hC.2 p h2 hne) (by rw [e1]; exact h3)
  rwa [e1] at this
theorem l2Prefix_ev {P : List Txt} (ws : List Txt) (hA : Asc P) (hC : Clo P) (hW : ∀ p ∈ P, wordL p = true) (i : Nat) (hi : i < P.length) : Ev (fun k => spec_l2Prefix.f k (trN P ws) (i : Int)) (B (P.getD i [])) := by
 have hm := getD_mem hi
 have := l2Prefix_up ws hA hC hW _ (P.getD i []) [] rfl hm (by rw [List.append_nil]; exact (wordL_iff.1 (hW _ hm)).2)
 rw [placeL_get hA hi, List.append_nil] at this
 exact this
def setR : List Txt → List Txt → List ByteArray × Bool
 | [], acc => (acc.map B, decide (acc.length ≤ 40))
 | w :: r, acc => if wordL w = true then setR r (putL acc w) else ([], false)
theorem setR_eq : ∀ (l acc : List Txt), setR l acc = if l.all wordL = true then ((l.foldl putL acc).map B, decide ((l.foldl putL acc).length ≤ 40)) else ([], false)
 | [], acc => rfl
 | w :: r, acc => by
  unfold setR
  rw [setR_eq r (putL acc w), List.all_cons, List.foldl_cons]
  cases h : wordL w with
  | false => rw [if_neg Bool.false_ne_true, if_neg (by rw [Bool.false_and]; exact Bool.false_ne_true)]
  | true => rw [if_pos rfl, Bool.true_and]
theorem l2Set_loop {b : Nat} (hb : b ≤ 1000000) (ws : List Txt) (hl : ws.length ≤ 2147483648) (hw : ∀ w ∈ ws, w.length ≤ b) : ∀ (d i : Nat) (acc : List Txt), i + d = ws.length → acc.length ≤ i → (∀ w ∈ acc, w.length ≤ b) →
  Ev (fun k => spec_l2Set.l0 k (ws.map B) (acc.map B) (i : Int)) (setR (ws.drop i) acc) := by
 intro d
 induction d with
 | zero =>
  intro i acc h1 h2 h3
  rw [List.drop_of_length_le (by omega)]
  refine Ev.step (fun k => spec_l2Set.l0.eq_2 ..) (Ev.ifF (by simp; omega) ?_)
  have : decide (((acc.map B).length : Int) ≤ 40) = decide (acc.length ≤ 40) := by
   rw [List.length_map]; exact decide_eq_decide.2 (by omega)
  rw [this]
  exact Ev.now _
 | succ d ih =>
  intro i acc h1 h2 h3
  have hi : i < ws.length := by omega
  have hm := getD_mem hi
  rw [drop_cons_getD [] hi]
  refine Ev.step (fun k => spec_l2Set.l0.eq_2 ..) (Ev.ifT (by simp; omega) (Ev.ifT (by omega) ?_))
  rw [rdB ws i hi]
  refine Ev.bind (f := fun k t => if t = true then (spec_l2Put.f (acc.map B) (B (ws.getD i []))).bind fun t165 => spec_l2Set.l0 k (ws.map B) t165 (wrap64 ((i : Int) + 1)) else some ([], false)) (l2Word_ev _ (by have := hw _ hm; omega)) ?_
  unfold setR
  cases hq : wordL (ws.getD i []) with
  | false =>
   rw [if_neg Bool.false_ne_true]
   exact Ev.ifF Bool.false_ne_true (Ev.now _)
  | true =>
   rw [if_pos (show true = true from rfl)]
   refine Ev.ifT rfl ?_
   rw [l2Put_eq acc _ (by omega) (fun x hx => by have := h3 x hx; omega)]
   refine Ev.some_bind ?_
   have h6 := putL_length_le acc (ws.getD i [])
   have := ih (i + 1) (putL acc (ws.getD i [])) (by omega) (by omega) (fun x hx => by
    rcases (mem_putL _ _ _).1 hx with rfl | hx
    ·
     exact hw _ hm
    ·
     exact h3 x hx)
   rw [wrap64_succ i (by omega)]
   exact this
theorem l2Set_ev {b : Nat} (ws : List Txt) (hl : ws.length ≤ 2147483648) (hw : ∀ w ∈ ws, w.length ≤ b) (hb : b ≤ 1000000 := by omega) : Ev (fun k => spec_l2Set.f k (ws.map B)) (if ws.all wordL = true then ((setL ws).map B, decide ((setL ws).length ≤ 40)) else ([], false)) := by
 have := l2Set_loop hb ws hl hw ws.length 0 [] (by omega) (by simp) (by simp)
 rw [List.drop_zero, setR_eq] at this
 exact this
theorem l2Has_loop (l : List Txt) (p : Txt) (hl : l.length ≤ 4611686018427387903) : ∀ (d i : Nat), i + d = l.length → Ev (fun k => spec_l2Has.l0 k (l.map B) (B p) (i : Int)) (decide (p ∈ l.drop i)) := by
 intro d
 induction d with
 | zero =>
  intro i h
  rw [List.drop_of_length_le (by omega)]
  exact Ev.step (fun k => spec_l2Has.l0.eq_2 ..) (Ev.ifF (by simp; omega) (by simpa using Ev.now false))
 | succ d ih =>
  intro i h
  have hi : i < l.length := by omega
  refine Ev.step (fun k => spec_l2Has.l0.eq_2 ..) (Ev.ifT (by simp; omega) (Ev.ifT (by omega) ?_))
  rw [rdB l i hi, drop_cons_getD [] hi, toList_B, toList_B]
  by_cases e : l.getD i [] = p
  ·
   rw [show decide (p ∈ l.getD i [] :: l.drop (i + 1)) = true from decide_eq_true (by rw [e]; exact List.mem_cons_self)]
   exact Ev.ifT e (Ev.now _)
  ·
   rw [show decide (p ∈ l.getD i [] :: l.drop (i + 1)) = decide (p ∈ l.drop (i + 1)) from decide_eq_decide.2 ⟨fun h => (List.mem_cons.1 h).resolve_left (fun q => e q.symm), fun h => List.mem_cons_of_mem _ h⟩]
   refine Ev.ifF e ?_
   rw [wrap64_succ i (by omega)]
   exact ih (i + 1) (by omega)
theorem l2Has_ev (l : List Txt) (p : Txt) (hl : l.length ≤ 4611686018427387903) : Ev (fun k => spec_l2Has.f k (l.map B) (B p)) (decide (p ∈ l)) := by
 have := l2Has_loop l p hl l.length 0 (by omega)
 rw [List.drop_zero] at this
 exact this
theorem l2Place_loop (l : List Txt) (p : Txt) (hl : l.length ≤ 4611686018427387903) : ∀ (d i : Nat), i + d = l.length → Ev (fun k => spec_l2Place.l0 k (l.map B) (B p) (i : Int)) (if p ∈ l.drop i then ((i + placeL (l.drop i) p : Nat) : Int) else -1) := by
 intro d
 induction d with
 | zero =>
  intro i h
  rw [List.drop_of_length_le (by omega)]
  exact Ev.step (fun k => spec_l2Place.l0.eq_2 ..) (Ev.ifF (by simp; omega) (by simpa using Ev.now (-1 : Int)))
 | succ d ih =>
  intro i h
  have hi : i < l.length := by omega
  refine Ev.step (fun k => spec_l2Place.l0.eq_2 ..) (Ev.ifT (by simp; omega) (Ev.ifT (by omega) ?_))
  rw [rdB l i hi, drop_cons_getD [] hi, toList_B, toList_B]
  by_cases e : l.getD i [] = p
  ·
   rw [if_pos (show p ∈ l.getD i [] :: l.drop (i + 1) from by rw [e]; exact List.mem_cons_self), placeL, if_pos e]
   exact Ev.ifT e (Ev.now _)
  ·
   refine Ev.ifF e ?_
   rw [wrap64_succ i (by omega)]
   have h1 := ih (i + 1) (by omega)
   by_cases hm : p ∈ l.drop (i + 1)
   ·
    rw [if_pos hm] at h1
    rw [if_pos (List.mem_cons_of_mem _ hm), placeL, if_neg e]
    rwa [show i + (placeL (l.drop (i + 1)) p + 1) = i + 1 + placeL (l.drop (i + 1)) p from by omega]
   ·
    rw [if_neg hm] at h1
    rw [if_neg (fun h => hm ((List.mem_cons.1 h).resolve_left (fun q => e q.symm)))]
    exact h1
theorem l2Place_ev (l : List Txt) (p : Txt) (hl : l.length ≤ 4611686018427387903) (h : p ∈ l) : Ev (fun k => spec_l2Place.f k (l.map B) (B p)) (placeL l p : Int) := by
 have := l2Place_loop l p hl l.length 0 (by omega)
 rw [List.drop_zero, if_pos h, Nat.zero_add] at this
 exact this
def begF (w : Txt) : Nat → Nat → List Txt
 | _, 0 => []
 | n, d + 1 => w.take n :: begF w (n + 1) d
theorem begF_eq (w : Txt) : ∀ d n, begF w n d = (List.range d).map fun j => w.take (n + j)
 | 0, _ => rfl
 | d + 1, n => by
  rw [begF, begF_eq w d (n + 1), List.range_succ_eq_map, List.map_cons, List.map_map]
  congr 1
  exact List.map_congr_left fun j _ => by show w.take (n + 1 + j) = w.take (n + (j + 1)); congr 1; omega
theorem begs_begF (w : Txt) : begs w = begF w 1 w.length := by
 rw [begF_eq]
 exact List.map_congr_left fun j _ => by congr 1; omega
theorem begF_len (w : Txt) : ∀ d n, (begF w n d).length = d := fun d n => by rw [begF_eq]; simp
theorem l2Of_in (ws : List Txt) (hl : ws.length ≤ 40) (hw : ∀ w ∈ ws, w.length ≤ 12) (i : Nat) (hi : i < ws.length) (r : List S64) (acc2 : List Txt) (hr : Ev (fun k => spec_l2Of.l0 k (ws.map B) (acc2.map B) ((i + 1 : Nat) : Int)) r) :
  ∀ (d n : Nat) (acc : List Txt), 0 < n → n + d = (ws.getD i []).length + 1 → (begF (ws.getD i []) n d).foldl putL acc = acc2 → acc.length + d ≤ 1000 → (∀ x ∈ acc, x.length ≤ 12) → Ev (fun k => spec_l2Of.l1 k (ws.map B) (acc.map B) (i : Int) (n : Int)) r := by
 have hwi := hw _ (getD_mem hi)
 intro d
 induction d with
 | zero =>
  intro n acc h0 h1 h2 h3 h4
  rw [begF, List.foldl_nil] at h2
  subst h2
  refine Ev.step (fun k => spec_l2Of.l1.eq_2 ..) (Ev.ifT (by omega) (Ev.ifT (by simp; omega) (Ev.ifF (by rw [rdB ws i hi, size_B]; omega) ?_)))
  rw [wrap64_succ i (by omega)]
  exact hr
 | succ d ih =>
  intro n acc h0 h1 h2 h3 h4
  refine Ev.step (fun k => spec_l2Of.l1.eq_2 ..) (Ev.ifT (by omega) (Ev.ifT (by simp; omega) (Ev.ifT (by rw [rdB ws i hi, size_B]; omega) (Ev.ifT (by omega) ?_))))
  rw [rdB ws i hi, extract_B, List.drop_zero, Int.toNat_natCast, Nat.sub_zero, l2Put_eq acc _ (by omega) (fun x hx => by have := h4 x hx; omega)]
  refine Ev.some_bind ?_
  rw [wrap64_succ n (by omega)]
  have h6 := putL_length_le acc ((ws.getD i []).take n)
  exact ih (n + 1) (putL acc ((ws.getD i []).take n)) (by omega) (by omega) (by rw [← h2]; rfl) (by omega) (fun x hx => by
   rcases (mem_putL _ _ _).1 hx with rfl | hx
   ·
    rw [List.length_take]; omega
   ·
    exact h4 x hx)
theorem l2Of_out (ws : List Txt) (hl : ws.length ≤ 40) (hw : ∀ w ∈ ws, w.length ≤ 12) (r : List S64) (all : List Txt) (hr : Ev (fun k => spec_l2Of.l2 k (ws.map B) (all.map B) 0 []) r) :
  ∀ (d i : Nat) (acc : List Txt), i + d = ws.length → ((ws.drop i).flatMap begs).foldl putL acc = all → acc.length + 12 * d ≤ 600 → (∀ x ∈ acc, x.length ≤ 12) → Ev (fun k => spec_l2Of.l0 k (ws.map B) (acc.map B) (i : Int)) r := by
 intro d
 induction d with
 | zero =>
  intro i acc h1 h2 h3 h4
  rw [List.drop_of_length_le (by omega), List.flatMap_nil, List.foldl_nil] at h2
  subst h2
  exact Ev.step (fun k => spec_l2Of.l0.eq_2 ..) (Ev.ifF (by simp; omega) hr)
 | succ d ih =>
  intro i acc h1 h2 h3 h4
  have hi : i < ws.length := by omega
  have hwi := hw _ (getD_mem hi)
  rw [drop_cons_getD [] hi, List.flatMap_cons, List.foldl_append] at h2
  have h5 := foldl_putL_len (begs (ws.getD i [])) acc
  rw [begs_length] at h5
  have hn := ih (i + 1) _ (by omega) h2 (by omega) (fun x hx => by
   rcases (foldl_putL_mem _ _ _).1 hx with hx | hx
   ·
    exact Nat.le_trans (mem_begs.1 hx).2.length_le hwi
   ·
    exact h4 x hx)
  refine Ev.step (fun k => spec_l2Of.l0.eq_2 ..) (Ev.ifT (by simp; omega) ?_)
  exact l2Of_in ws hl hw i hi r _ hn (ws.getD i []).length 1 acc (by omega) (by omega) (by rw [← begs_begF]) (by omega) h4
theorem l2Of_nodes {ws P : List Txt} (hA : Asc P) (hC : Clo P) (hW : ∀ p ∈ P, wordL p = true) (hP : P.length ≤ 1000) (hl : ws.length ≤ 1000) : ∀ (d i : Nat) (acc : List S64), i + d = P.length → acc.length ≤ i →
  Ev (fun k => spec_l2Of.l2 k (ws.map B) (P.map B) (i : Int) acc) (acc ++ ((P.drop i).map fun p => mkN (ndL P ws p))) := by
 intro d
 induction d with
 | zero =>
  intro i acc h1 h2
  rw [List.drop_of_length_le (by omega), List.map_nil, List.append_nil]
  exact Ev.step (fun k => spec_l2Of.l2.eq_2 ..) (Ev.ifF (by simp; omega) (Ev.now _))
 | succ d ih =>
  intro i acc h1 h2
  have hi : i < P.length := by omega
  have hm := getD_mem hi
  rw [drop_cons_getD [] hi, List.map_cons]
  refine Ev.step (fun k => spec_l2Of.l2.eq_2 ..) (Ev.ifT (by simp; omega) (Ev.ifT (by omega) ?_))
  rw [rdB P i hi]
  refine Ev.bind (l2Has_ev ws (P.getD i []) (by omega)) ?_
  have hcons : ∀ x : S64, acc ++ (x :: (P.drop (i + 1)).map fun p => mkN (ndL P ws p)) = (acc ++ [x]) ++ (P.drop (i + 1)).map fun p => mkN (ndL P ws p) := fun x => by simp
  rw [hcons]
  by_cases h0 : i = 0
  ·
   have hp : P.getD i [] = [] := by rw [h0]; exact (clo_zero hA hC).2
   refine Ev.ifF (by omega) (Ev.ifT (by omega) ?_)
   have hx : mkN (ndL P ws (P.getD i [])) = ⟨-1, -1, decide (P.getD i [] ∈ ws)⟩ := by unfold mkN ndL; rw [if_pos hp, if_pos hp]
   rw [hx, wrap64_succ i (by omega)]
   exact ih (i + 1) _ (by omega) (by simp; omega)
  ·
   have hne := clo_pos hA hC hi (by omega)
   have hlen := List.length_pos_iff.2 hne
   have h12 := (wordL_iff.1 (hW _ hm)).2
   have hw1 : wrap64 (((B (P.getD i [])).size : Int) - 1) = ((P.getD i []).length - 1 : Nat) := by rw [size_B, wrap64_id (by omega) (by omega)]; omega
   rw [hw1]
   refine Ev.ifT (by omega) (Ev.ifT (by omega) (Ev.ifT (by rw [size_B]; omega) (Ev.ifT (by rw [size_B]; omega) ?_)))
   rw [extract_B, List.drop_zero, Int.toNat_natCast, Nat.sub_zero, ← List.dropLast_eq_take]
   refine Ev.bind (l2Place_ev P _ (by omega) (hC.2 _ hm hne)) (Ev.ifT (by omega) ?_)
   have hx : mkN (ndL P ws (P.getD i [])) = ⟨((bt (B (P.getD i [])) (((P.getD i []).length - 1 : Nat) : Int)) - 97) % 256, (placeL P (P.getD i []).dropLast : Int), decide (P.getD i [] ∈ ws)⟩ := by
    unfold mkN ndL
    rw [if_neg hne, if_neg hne, bt_B _ _ (by omega)]
    rfl
   rw [hx, wrap64_succ i (by omega)]
   exact ih (i + 1) _ (by omega) (by simp; omega)
theorem l2Of_ev {ws : List Txt} (h : OkW ws) : Ev (fun k => spec_l2Of.f k (ws.map B)) (trN (preL ws) ws) := by
 have h1 := h.pre
 have h2 := h.len
 have hn := l2Of_nodes (ws := ws) (asc_preL ws) (clo_preL ws) (fun p hp => preL_word h.word hp) (by omega) (by omega) (preL ws).length 0 [] (by omega) (by simp)
 rw [List.drop_zero, List.nil_append] at hn
 have e : (preL ws).map (fun p => mkN (ndL (preL ws) ws p)) = trN (preL ws) ws := by unfold trN nodesL; rw [List.map_map]; rfl
 rw [e] at hn
 exact l2Of_out ws h.len h.le _ (preL ws) hn ws.length 0 [[]] (by omega) rfl (by simp; omega) (by simp)
theorem rd_get (N : List S64) (i : Nat) (h : i < N.length) : rd_T64 N (i : Int) = N[i] := by
 unfold rd_T64
 rw [Int.toNat_natCast, getD_lt _ h]
theorem okW_setL {ws : List Txt} (h : ws.all wordL = true) (hl : (setL ws).length ≤ 40) : OkW (setL ws) := ⟨asc_setL ws, hl, fun w hw => List.all_eq_true.1 h w ((mem_setL ws w).1 hw)⟩
def IsTr (N : List S64) : Prop := ∃ ws, OkW ws ∧ N = trN (preL ws) ws
theorem IsTr.len {N : List S64} (h : IsTr N) : 1 ≤ N.length ∧ N.length ≤ 481 := by
 obtain ⟨ws, h, rfl⟩ := h
 rw [trN_length]
 exact ⟨(clo_zero (asc_preL ws) (clo_preL ws)).1, h.pre⟩
theorem l2Words_loop_ex (N : List S64) (hN : N.length ≤ 4294967296) : ∀ (d i : Nat) (acc : List Txt), i + d = N.length → acc.length ≤ i → (∀ w ∈ acc, w.length ≤ 13) →
  ∃ ws : List Txt, ws.length ≤ N.length ∧ (∀ w ∈ ws, w.length ≤ 13) ∧ Ev (fun k => spec_l2Words.l0 k (acc.map B) (i : Int) N) (ws.map B) := by
 intro d
 induction d with
 | zero => intro i acc h1 h2 h3; exact ⟨acc, by omega, h3, Ev.step (fun k => spec_l2Words.l0.eq_2 ..) (Ev.ifF (by omega) (Ev.now _))⟩
 | succ d ih =>
  intro i acc h1 h2 h3
  by_cases hf : (rd_T64 N (i : Int)).f2 = true
  ·
   obtain ⟨r, hr, he⟩ := l2Prefix_ex N i (i : Int) [] (by omega) (by omega) (by simp)
   obtain ⟨ws, w1, w2, w3⟩ := ih (i + 1) (acc ++ [r]) (by omega) (by simp; omega) (fun w hw => by
    rcases List.mem_append.1 hw with hw | hw
    ·
     exact h3 w hw
    ·
     rw [List.mem_singleton.1 hw]; exact hr)
   refine ⟨ws, w1, w2, Ev.step (fun k => spec_l2Words.l0.eq_2 ..) (Ev.ifT (by omega) (Ev.ifT (by omega) (Ev.ifT hf (Ev.bind (f := fun k t => if (acc.map B).length < 8796093022208 then spec_l2Words.l0 k (acc.map B ++ [t]) (wrap64 ((i : Int) + 1)) N else none) he (Ev.ifT (by simp; omega) ?_)))))⟩
   simpa only [wrap64_succ i (by omega), List.map_append, List.map_cons, List.map_nil] using w3
  ·
   obtain ⟨ws, w1, w2, w3⟩ := ih (i + 1) acc (by omega) (by omega) h3
   refine ⟨ws, w1, w2, Ev.step (fun k => spec_l2Words.l0.eq_2 ..) (Ev.ifT (by omega) (Ev.ifT (by omega) (Ev.ifF hf ?_)))⟩
   simpa only [wrap64_succ i (by omega)] using w3
theorem l2Words_ex (N : List S64) (hN : N.length ≤ 4294967296) : ∃ ws : List Txt, ws.length ≤ N.length ∧ (∀ w ∈ ws, w.length ≤ 13) ∧ Ev (fun k => spec_l2Words.f k N) (ws.map B) :=
 l2Words_loop_ex N hN N.length 0 [] (by omega) (by simp) (by simp)
theorem l2Words_loop {P : List Txt} (ws : List Txt) (hA : Asc P) (hC : Clo P) (hW : ∀ p ∈ P, wordL p = true) (hP : P.length ≤ 4294967296) : ∀ (d i : Nat) (acc : List Txt), i + d = P.length → acc.length ≤ i →
  Ev (fun k => spec_l2Words.l0 k (acc.map B) (i : Int) (trN P ws)) ((acc ++ (P.drop i).filter (fun p => decide (p ∈ ws))).map B) := by
 intro d
 induction d with
 | zero =>
  intro i acc h1 h2
  rw [List.drop_of_length_le (by omega)]
  exact Ev.step (fun k => spec_l2Words.l0.eq_2 ..) (Ev.ifF (by rw [trN_length]; omega) (by simpa using Ev.now _))
 | succ d ih =>
  intro i acc h1 h2
  have hi : i < P.length := by omega
  have hf : (rd_T64 (trN P ws) (i : Int)).f2 = decide (P.getD i [] ∈ ws) := by rw [rdN P ws i hi]; rfl
  rw [drop_cons_getD [] hi, List.filter_cons]
  by_cases hm : P.getD i [] ∈ ws
  ·
   rw [decide_eq_true hm] at hf
   rw [decide_eq_true hm, if_pos rfl]
   refine Ev.step (fun k => spec_l2Words.l0.eq_2 ..) (Ev.ifT (by rw [trN_length]; omega) (Ev.ifT (by omega) (Ev.ifT hf (Ev.bind (f := fun k t => if (acc.map B).length < 8796093022208 then spec_l2Words.l0 k (acc.map B ++ [t]) (wrap64 ((i : Int) + 1)) (trN P ws) else none) (l2Prefix_ev ws hA hC hW i hi) (Ev.ifT (by simp; omega) ?_)))))
   have := ih (i + 1) (acc ++ [P.getD i []]) (by omega) (by simp; omega)
   simpa only [wrap64_succ i (by omega), List.map_append, List.map_cons, List.map_nil, List.append_assoc, List.singleton_append] using this
  ·
   rw [decide_eq_false hm] at hf
   rw [decide_eq_false hm, if_neg Bool.false_ne_true]
   refine Ev.step (fun k => spec_l2Words.l0.eq_2 ..) (Ev.ifT (by rw [trN_length]; omega) (Ev.ifT (by omega) (Ev.ifF (by rw [hf]; exact Bool.false_ne_true) ?_)))
   simpa only [wrap64_succ i (by omega)] using ih (i + 1) acc (by omega) (by omega)
theorem l2Words_ev {ws : List Txt} (h : OkW ws) : Ev (fun k => spec_l2Words.f k (trN (preL ws) ws)) (ws.map B) := by
 have := l2Words_loop ws (asc_preL ws) (clo_preL ws) (fun p hp => preL_word h.word hp) (by have := h.pre; omega) (preL ws).length 0 [] (by omega) (by simp)
 rw [List.drop_zero, List.nil_append, filter_preL h.asc] at this
 exact this
theorem node_ne (a b : S64) : (!(a.f0 == b.f0) || (!(a.f1 == b.f1) || (!(a.f2 == b.f2)))) = decide (a ≠ b) := by
 obtain ⟨a0, a1, a2⟩ := a
 obtain ⟨b0, b1, b2⟩ := b
 rw [Bool.eq_iff_iff]
 simp only [Bool.or_eq_true, Bool.not_eq_true', beq_eq_false_iff_ne, decide_eq_true_eq, ne_eq, S64.mk.injEq]
 constructor
 ·
  rintro (h | h | h) ⟨e1, e2, e3⟩
  ·
   exact h e1
  ·
   exact h e2
  ·
   exact h e3
 ·
  intro h
  by_cases e1 : a0 = b0
  ·
   by_cases e2 : a1 = b1
   ·
    exact .inr (.inr fun e3 => h ⟨e1, e2, e3⟩)
   ·
    exact .inr (.inl e2)
  ·
   exact .inl e1
theorem l2Same_loop (M N : List S64) (hM : M.length ≤ 4611686018427387903) : ∀ (d i : Nat), i + d = M.length → i ≤ N.length → Ev (fun k => spec_l2Same.l0 k (i : Int) M N) (decide (M.drop i = N.drop i)) := by
 have fin : ∀ i : Nat, (i = M.length ∨ i = N.length) → i ≤ M.length → i ≤ N.length → Ev (fun k => spec_l2Same.j1 k (i : Int) false M N) (decide (M.drop i = N.drop i)) := by
  intro i h1 h2 h3
  refine Ev.step (fun k => spec_l2Same.j1.eq_2 ..) (Ev.ifF (by simp) ?_)
  have : ((M.length : Int) == (N.length : Int)) = decide (M.drop i = N.drop i) := by
   rw [Bool.eq_iff_iff, beq_iff_eq, decide_eq_true_eq]
   constructor
   ·
    intro e
    rw [List.drop_of_length_le (by omega), List.drop_of_length_le (by omega)]
   ·
    intro e
    have := congrArg List.length e
    rw [List.length_drop, List.length_drop] at this
    omega
  rw [this]
  exact Ev.now _
 intro d
 induction d with
 | zero =>
  intro i h1 h2
  exact Ev.step (fun k => spec_l2Same.l0.eq_2 ..) (Ev.ifF (by omega) (fin i (by omega) (by omega) h2))
 | succ d ih =>
  intro i h1 h2
  refine Ev.step (fun k => spec_l2Same.l0.eq_2 ..) (Ev.ifT (by omega) ?_)
  by_cases hi : i < N.length
  ·
   rw [decide_eq_true (show (i : Int) < (N.length : Int) by omega)]
   refine Ev.step (fun k => spec_l2Same.j1.eq_2 ..) (Ev.ifT rfl (Ev.ifT (by omega) (Ev.ifT (by omega) (Ev.ifT (by omega) ?_))))
   rw [node_ne, rd_get M i (by omega), rd_get N i hi, List.drop_eq_getElem_cons (show i < M.length by omega), List.drop_eq_getElem_cons hi]
   by_cases e : M[i] = N[i]
   ·
    refine Ev.ifF (by simp [e]) ?_
    rw [wrap64_succ i (by omega), show decide (M[i] :: M.drop (i + 1) = N[i] :: N.drop (i + 1)) = decide (M.drop (i + 1) = N.drop (i + 1)) from decide_eq_decide.2 ⟨fun h => (List.cons.inj h).2, fun h => by rw [e, h]⟩]
    exact ih (i + 1) (by omega) (by omega)
   ·
    refine Ev.ifT (by simp [e]) ?_
    rw [show decide (M[i] :: M.drop (i + 1) = N[i] :: N.drop (i + 1)) = false from decide_eq_false fun h => e (List.cons.inj h).1]
    exact Ev.now _
  ·
   rw [decide_eq_false (show ¬ (i : Int) < (N.length : Int) by omega)]
   exact fin i (by omega) (by omega) h2
theorem l2Same_ev (M N : List S64) (hM : M.length ≤ 4611686018427387903) : Ev (fun k => spec_l2Same.f k M N) (decide (M = N)) := by
 have := l2Same_loop M N hM M.length 0 (by omega) (by omega)
 rwa [List.drop_zero, List.drop_zero] at this
theorem l2Trie_ev (N : List S64) : ∃ b : Bool, (b = true ↔ IsTr N) ∧ Ev (fun k => spec_l2Trie.f k N) b := by
 unfold spec_l2Trie.f
 simp only [l1In_eq]
 by_cases hn : 1 ≤ (N.length : Int) ∧ (N.length : Int) ≤ 481
 ·
  rw [decide_eq_true hn]
  by_cases ht : IsTr N
  ·
   refine ⟨true, by simp [ht], Ev.some_bind (Ev.ifT rfl ?_)⟩
   obtain ⟨ws, h, rfl⟩ := ht
   refine Ev.bind (l2Words_ev h) (Ev.bind (l2Set_ev (b := 13) ws (by have := h.len; omega) (fun w hw => by have := h.le w hw; omega)) ?_)
   rw [if_pos (List.all_eq_true.2 h.word), setL_of_asc h.asc]
   refine Ev.ifT (by simpa using h.len) (Ev.bind (l2Of_ev h) (Ev.bind (l2Same_ev _ _ (by rw [trN_length]; have := h.pre; omega)) ?_))
   simpa using Ev.now true
  ·
   refine ⟨false, by simp [ht], Ev.some_bind (Ev.ifT rfl ?_)⟩
   obtain ⟨ws, w1, w2, w3⟩ := l2Words_ex N (by omega)
   refine Ev.bind w3 (Ev.bind (l2Set_ev ws (by omega) w2) ?_)
   by_cases ha : ws.all wordL = true
   ·
    rw [if_pos ha]
    by_cases hl : (setL ws).length ≤ 40
    ·
     have hok := okW_setL ha hl
     refine Ev.ifT (by simpa using hl) (Ev.bind (l2Of_ev hok) (Ev.bind (l2Same_ev _ _ (by rw [trN_length]; have := hok.pre; omega)) ?_))
     rw [show decide (trN (preL (setL ws)) (setL ws) = N) = false from decide_eq_false fun e => ht ⟨_, hok, e.symm⟩]
     exact Ev.now false
    ·
     exact Ev.ifF (by simpa using hl) (Ev.now false)
   ·
    rw [if_neg ha]
    exact Ev.ifF (by simp) (Ev.now false)
 ·
  rw [decide_eq_false hn]
  refine ⟨false, ?_, Ev.some_bind (Ev.ifF (by simp) (Ev.now false))⟩
  simp only [Bool.false_eq_true, false_iff]
  intro h
  have := h.len
  omega
theorem in_eq (a b c : Int) : impl_in.f a b c = some (decide (b ≤ a ∧ a ≤ c)) := by
 unfold impl_in.f
 by_cases h : b ≤ a
 ·
  rw [if_pos (by omega)]; simp [h]
 ·
  rw [if_neg (by omega)]; simp [h]
abbrev Nd := S64
theorem bytesLess_eq : ∀ (x y : Txt), Op.bytesLess x y = decide (x < y)
 | [], [] => by rw [decide_eq_false (txt_irrefl [])]; rfl
 | _ :: _, [] => by rw [decide_eq_false (List.not_lt_nil _)]; rfl
 | [], b :: y => by rw [decide_eq_true (List.nil_lt_cons b y)]; rfl
 | a :: x, b :: y => by
  rw [Op.bytesLess, bytesLess_eq x y, Bool.eq_iff_iff, decide_eq_true_eq, List.cons_lt_cons_iff]
  simp
theorem less_eq (x y : Txt) : cmp_Less_string.f (B x) (B y) = some (decide (x < y)) := by
 unfold cmp_Less_string.f cmp_isNaN_string.f
 rw [toList_B, toList_B, ← bytesLess_eq]
 simp
def Srt (ws : List Txt) : Prop := ∀ j, j + 1 < ws.length → ¬ ws.getD (j + 1) [] < ws.getD j []
theorem Srt.le {ws : List Txt} (h : Srt ws) (i : Nat) : ∀ d, i + d < ws.length → ¬ ws.getD (i + d) [] < ws.getD i []
 | 0, _ => txt_irrefl _
 | d + 1, hd => fun hlt => by
  have h1 := h.le i d (by omega)
  have h2 := h (i + d) (by omega)
  exact h1 (List.lt_of_le_of_lt (List.not_lt.1 h2) hlt)
theorem srt_asc {ws : List Txt} (h : Asc ws) : Srt ws := fun j hj => txt_asymm (asc_get h hj (Nat.lt_succ_self j))
theorem half_eq (i j : Nat) (h : i + j ≤ 4611686018427387903) : wrap64 ((IntKind.u64.wrap (wrap64 ((i : Int) + (j : Int)))) / 2) = (((i + j) / 2 : Nat) : Int) := by
 have e1 : wrap64 ((i : Int) + (j : Int)) = ((i + j : Nat) : Int) := by rw [wrap64_id (by omega) (by omega)]; omega
 have e2 : IntKind.u64.wrap (((i + j : Nat) : Int)) = ((i + j : Nat) : Int) := by
  simp [IntKind.wrap, IntKind.bits, IntKind.signed]; omega
 rw [e1, e2, wrap64_id (by omega) (by omega)]
 omega
theorem search_loop (ws : List Txt) (p : Txt) (hl : ws.length ≤ 1000000000) (hs : Srt ws) : ∀ (d i j : Nat), i + d = j → j ≤ ws.length → (∀ m, m < i → ws.getD m [] < p) → (∀ m, j ≤ m → m < ws.length → ¬ ws.getD m [] < p) →
  ∃ q : Nat, q ≤ ws.length ∧ (∀ m, m < q → ws.getD m [] < p) ∧ (∀ m, q ≤ m → m < ws.length → ¬ ws.getD m [] < p) ∧ Ev (fun k => slices_BinarySearch_string_string.l0 k (ws.map B) (B p) (ws.length : Int) (i : Int) (j : Int)) ((q : Int), decide (p ∈ ws)) := by
 intro d
 induction d using Nat.strongRecOn with
 | _ d ih =>
  intro i j h1 h2 h3 h4
  by_cases hij : i < j
  ·
   have hh : (i + j) / 2 < ws.length := by omega
   by_cases hlt : ws.getD ((i + j) / 2) [] < p
   ·
    obtain ⟨q, q1, q2, q3, q4⟩ := ih (j - ((i + j) / 2 + 1)) (by omega) ((i + j) / 2 + 1) j (by omega) h2 (fun m hm => by
     by_cases e : m = (i + j) / 2
     ·
      rw [e]; exact hlt
     ·
      by_cases hmi : m < i
      ·
       exact h3 m hmi
      ·
       have hle := hs.le m ((i + j) / 2 - m) (by omega)
       rw [show m + ((i + j) / 2 - m) = (i + j) / 2 from by omega] at hle
       exact List.lt_of_le_of_lt (List.not_lt.1 hle) hlt) h4
    refine ⟨q, q1, q2, q3, Ev.step (fun k => slices_BinarySearch_string_string.l0.eq_2 ..) (Ev.ifT (by omega) ?_)⟩
    rw [half_eq i j (by omega)]
    refine Ev.ifT (by omega) (Ev.ifT (by rw [List.length_map]; omega) ?_)
    rw [rdB ws _ hh, less_eq, decide_eq_true hlt]
    refine Ev.some_bind (Ev.ifT rfl ?_)
    rw [wrap64_succ _ (by omega)]
    exact q4
   ·
    obtain ⟨q, q1, q2, q3, q4⟩ := ih ((i + j) / 2 - i) (by omega) i ((i + j) / 2) (by omega) (by omega) h3 (fun m hm hml => by
     have hle := hs.le ((i + j) / 2) (m - (i + j) / 2) (by omega)
     rw [show (i + j) / 2 + (m - (i + j) / 2) = m from by omega] at hle
     exact fun hp => hlt (List.lt_of_le_of_lt (List.not_lt.1 hle) hp))
    refine ⟨q, q1, q2, q3, Ev.step (fun k => slices_BinarySearch_string_string.l0.eq_2 ..) (Ev.ifT (by omega) ?_)⟩
    rw [half_eq i j (by omega)]
    refine Ev.ifT (by omega) (Ev.ifT (by rw [List.length_map]; omega) ?_)
    rw [rdB ws _ hh, less_eq, decide_eq_false hlt]
    exact Ev.some_bind (Ev.ifF Bool.false_ne_true q4)
  ·
   obtain rfl : i = j := by omega
   refine ⟨i, h2, h3, h4, Ev.step (fun k => slices_BinarySearch_string_string.l0.eq_2 ..) (Ev.ifF (by omega) ?_)⟩
   by_cases hn : i < ws.length
   ·
    refine Ev.ifT (by omega) (Ev.ifT (by omega) (Ev.ifT (by rw [List.length_map]; omega) ?_))
    rw [rdB ws i hn, toList_B, toList_B]
    by_cases e : ws.getD i [] = p
    ·
     rw [decide_eq_true (show p ∈ ws from e ▸ getD_mem hn)]
     exact Ev.ifT e (Ev.now _)
    ·
     have hm : ¬ p ∈ ws := fun hp => by
      obtain ⟨z1, z2⟩ := placeL_mem hp
      have hz : i ≤ placeL ws p := by
       by_cases hzi : placeL ws p < i
       ·
        have := h3 _ hzi; rw [z2] at this; exact absurd this (txt_irrefl _)
       ·
        omega
      have hle := hs.le i (placeL ws p - i) (by omega)
      rw [show i + (placeL ws p - i) = placeL ws p from by omega, z2] at hle
      exact e (txt_tri (h4 i (Nat.le_refl _) hn) hle)
     rw [decide_eq_false hm]
     refine Ev.ifF e ?_
     unfold slices_isNaN_string.f
     exact Ev.some_bind (Ev.ifF (by simp) (Ev.now _))
   ·
    have hm : ¬ p ∈ ws := fun hp => by
     obtain ⟨z1, z2⟩ := placeL_mem hp
     have := h3 _ (show placeL ws p < i by omega)
     rw [z2] at this
     exact txt_irrefl _ this
    rw [decide_eq_false hm]
    exact Ev.ifF (by omega) (Ev.now _)
theorem search_ev (ws : List Txt) (p : Txt) (hl : ws.length ≤ 1000000000) (hs : Srt ws) : ∃ q : Nat, q ≤ ws.length ∧ (∀ m, m < q → ws.getD m [] < p) ∧ (∀ m, q ≤ m → m < ws.length → ¬ ws.getD m [] < p) ∧ Ev (fun k => slices_BinarySearch_string_string.f k (ws.map B) (B p)) ((q : Int), decide (p ∈ ws)) := by
 unfold slices_BinarySearch_string_string.f
 have := search_loop ws p hl hs ws.length 0 ws.length (by omega) (Nat.le_refl _) (fun m hm => absurd hm (Nat.not_lt_zero _)) (fun m h1 h2 => absurd h2 (by omega))
 rw [List.length_map]
 exact this
def prefGo : List Nd → List Txt → Option (List Txt)
 | [], acc => some acc
 | n :: r, acc => if 0 ≤ n.f1 ∧ n.f1 < (acc.length : Int) ∧ 0 ≤ n.f0 ∧ n.f0 ≤ 25 then prefGo r (acc ++ [acc.getD n.f1.toNat [] ++ [UInt8.ofNat (97 + n.f0.toNat)]]) else none
def prefR : Option (List Txt) → List ByteArray × Bool
 | some ps => (ps.map B, true)
 | none => ([], false)
theorem letter_eq (n : Int) (h0 : 0 ≤ n) (h1 : n ≤ 25) : impl_letter.f n = some (B [UInt8.ofNat (97 + n.toNat)]) := by
 unfold impl_letter.f
 rw [strOfNums_B]
 congr 3
 rw [wrap64_id (by omega) (by omega)]
 congr 1
 omega
theorem getD_le {acc : List Txt} {b : Nat} (h : ∀ p ∈ acc, p.length ≤ b) (n : Nat) : (acc.getD n []).length ≤ b := by
 by_cases hn : n < acc.length
 ·
  exact h _ (getD_mem hn)
 ·
  rw [List.getD_eq_getElem?_getD, List.getElem?_eq_none (by omega)]; simp
theorem pref_loop (N' : List Nd) (hN : N'.length ≤ 1000000) : ∀ (d i : Nat) (acc : List Txt), i + d = N'.length → acc.length = i + 1 → (∀ p ∈ acc, p.length ≤ i) →
  Ev (fun k => impl_Trie_prefixes.l0 k (acc.map B) N' (N'.length : Int) (i : Int)) (prefR (prefGo (N'.drop i) acc)) := by
 intro d
 induction d with
 | zero =>
  intro i acc h1 h2 h3
  rw [List.drop_of_length_le (by omega)]
  exact Ev.step (fun k => impl_Trie_prefixes.l0.eq_2 ..) (Ev.ifF (by omega) (Ev.now _))
 | succ d ih =>
  intro i acc h1 h2 h3
  have hi : i < N'.length := by omega
  rw [List.drop_eq_getElem_cons hi]
  refine Ev.step (fun k => impl_Trie_prefixes.l0.eq_2 ..) (Ev.ifT (by omega) (Ev.ifT (by omega) (Ev.ifT (by omega) ?_)))
  rw [rd_get N' i hi, in_eq]
  unfold prefGo
  by_cases ha : 0 ≤ N'[i].f1 ∧ N'[i].f1 ≤ (i : Int)
  ·
   rw [decide_eq_true ha]
   refine Ev.some_bind (Ev.ifT rfl ?_)
   rw [in_eq]
   by_cases hb : 0 ≤ N'[i].f0 ∧ N'[i].f0 ≤ 25
   ·
    rw [decide_eq_true hb, if_pos ⟨ha.1, by omega, hb.1, hb.2⟩]
    refine Ev.some_bind (Ev.ifT rfl (Ev.ifT ha.1 (Ev.ifT (by rw [List.length_map]; omega) ?_)))
    rw [letter_eq _ hb.1 hb.2]
    refine Ev.some_bind ?_
    obtain ⟨m, hm⟩ : ∃ m : Nat, N'[i].f1 = (m : Int) := ⟨N'[i].f1.toNat, by omega⟩
    have hml : m < acc.length := by omega
    have hmb := getD_le h3 m
    rw [hm, rdB acc m hml, Int.toNat_natCast]
    refine Ev.ifT (by rw [size_B, size_B, List.length_singleton]; omega) (Ev.ifT (by rw [List.length_map]; omega) ?_)
    rw [append_B, wrap64_succ i (by omega)]
    have := ih (i + 1) (acc ++ [acc.getD m [] ++ [UInt8.ofNat (97 + N'[i].f0.toNat)]]) (by omega) (by simp; omega) (fun p hp => by
     rcases List.mem_append.1 hp with hp | hp
     ·
      have := h3 p hp; omega
     ·
      rw [List.mem_singleton.1 hp]; simp; simpa using hmb)
    rw [List.map_append, List.map_singleton] at this
    exact this
   ·
    rw [decide_eq_false hb, if_neg (fun h => hb h.2.2)]
    exact Ev.some_bind (Ev.ifF Bool.false_ne_true (Ev.now _))
  ·
   rw [decide_eq_false ha, if_neg (fun h => ha ⟨h.1, by omega⟩)]
   exact Ev.some_bind (Ev.ifF Bool.false_ne_true (Ev.now _))
def prefN (N : List Nd) : Option (List Txt) := if 1 ≤ N.length ∧ N.length ≤ 481 then prefGo (N.drop 1) [[]] else none
theorem prefixes_ev (N : List Nd) : Ev (fun k => impl_Trie_prefixes.f k N) (prefR (prefN N)) := by
 unfold impl_Trie_prefixes.f prefN
 simp only [in_eq]
 by_cases h : 1 ≤ N.length ∧ N.length ≤ 481
 ·
  rw [if_pos h, decide_eq_true (show (1 : Int) ≤ (N.length : Int) ∧ (N.length : Int) ≤ 481 by omega)]
  refine Ev.some_bind (Ev.ifT rfl (Ev.ifT (by omega) (Ev.some_bind ?_)))
  exact pref_loop (N.drop 1) (by rw [List.length_drop]; omega) (N.drop 1).length 0 [[]] (by omega) rfl (by simp)
 ·
  rw [if_neg h, decide_eq_false (show ¬ ((1 : Int) ≤ (N.length : Int) ∧ (N.length : Int) ≤ 481) by omega)]
  exact Ev.some_bind (Ev.ifF Bool.false_ne_true (Ev.now _))
theorem letterB_of (m : Nat) (h : m ≤ 25) : letterB (UInt8.ofNat (97 + m)) = true := by
 have : (UInt8.ofNat (97 + m)).toNat = 97 + m := by simp; omega
 simp only [letterB, this, decide_eq_true_eq]; omega
theorem prefGo_ok : ∀ (r : List Nd) (acc ps : List Txt), prefGo r acc = some ps → (∀ p ∈ acc, ∀ c ∈ p, letterB c = true) → (∀ p ∈ ps, ∀ c ∈ p, letterB c = true) ∧ ps.length = acc.length + r.length
 | [], acc, ps, h, ha => by
  obtain rfl := Option.some.inj h
  exact ⟨ha, rfl⟩
 | n :: r, acc, ps, h, ha => by
  unfold prefGo at h
  by_cases hc : 0 ≤ n.f1 ∧ n.f1 < (acc.length : Int) ∧ 0 ≤ n.f0 ∧ n.f0 ≤ 25
  ·
   rw [if_pos hc] at h
   obtain ⟨h1, h2⟩ := prefGo_ok r _ ps h (fun p hp c hcp => by
    rcases List.mem_append.1 hp with hp | hp
    ·
     exact ha p hp c hcp
    ·
     rw [List.mem_singleton.1 hp] at hcp
     rcases List.mem_append.1 hcp with hcp | hcp
     ·
      exact ha _ (getD_mem (by omega)) c hcp
     ·
      rw [List.mem_singleton.1 hcp]; exact letterB_of _ (by omega))
   exact ⟨h1, by rw [h2]; simp; omega⟩
  ·
   rw [if_neg hc] at h; cases h
theorem letter_last {p : Txt} (hw : wordL p = true) (h : p ≠ []) : UInt8.ofNat (97 + (ltrOf p).toNat) = p.getD (p.length - 1) 0 := by
 obtain ⟨h1, h2, h3⟩ := ltrOf_bd hw h
 have h4 := letter_bd ((wordL_iff.1 hw).1 _ (getLast_mem h))
 have e : 97 + (ltrOf p).toNat = (p.getD (p.length - 1) 0).toNat := by omega
 rw [e]; simp
theorem trN_get {P ws : List Txt} (i : Nat) (h : i < (trN P ws).length) : (trN P ws)[i] = mkN (ndL P ws (P.getD i [])) := by
 have h2 : i < P.length := by rwa [trN_length] at h
 rw [← rdN P ws i h2, rd_get _ i h]
theorem prefGo_tr {P : List Txt} (ws : List Txt) (hA : Asc P) (hC : Clo P) (hW : ∀ p ∈ P, wordL p = true) : ∀ (d i : Nat), i + d = P.length → 0 < i → prefGo ((trN P ws).drop i) (P.take i) = some P := by
 intro d
 induction d with
 | zero =>
  intro i h1 h2
  rw [List.drop_of_length_le (by rw [trN_length]; omega), List.take_of_length_le (by omega)]
  rfl
 | succ d ih =>
  intro i h1 h2
  have hi : i < P.length := by omega
  have hit : i < (trN P ws).length := by rw [trN_length]; exact hi
  have hne := clo_pos hA hC hi h2
  have hm := getD_mem hi
  obtain ⟨j1, j2⟩ := clo_parent hA hC hi h2
  obtain ⟨_, b1, b2⟩ := ltrOf_bd (hW _ hm) hne
  rw [List.drop_eq_getElem_cons hit, trN_get i hit]
  have hx : mkN (ndL P ws (P.getD i [])) = ⟨ltrOf (P.getD i []), (placeL P (P.getD i []).dropLast : Int), decide (P.getD i [] ∈ ws)⟩ := by unfold mkN ndL; rw [if_neg hne, if_neg hne]
  rw [hx]
  unfold prefGo
  have hl : (P.take i).length = i := by rw [List.length_take]; omega
  rw [if_pos ⟨Int.natCast_nonneg _, by show ((placeL P (P.getD i []).dropLast : Nat) : Int) < ((P.take i).length : Int); rw [hl]; exact Int.ofNat_lt.2 j1, b1, b2⟩]
  simp only [Int.toNat_natCast]
  have hg : (P.take i).getD (placeL P (P.getD i []).dropLast) [] = (P.getD i []).dropLast := by
   rw [getD_lt [] (by rw [hl]; exact j1), List.getElem_take, ← getD_lt [] (by omega), j2]
  rw [hg, letter_last (hW _ hm) hne, dropLast_getD _ hne, ← take_succ_getD [] hi]
  exact ih (i + 1) (by omega) (by omega)
theorem prefN_tr {ws : List Txt} (h : OkW ws) : prefN (trN (preL ws) ws) = some (preL ws) := by
 obtain ⟨z1, z2⟩ := clo_zero (asc_preL ws) (clo_preL ws)
 unfold prefN
 rw [trN_length, if_pos ⟨z1, h.pre⟩]
 have := prefGo_tr ws (asc_preL ws) (clo_preL ws) (fun p hp => preL_word h.word hp) ((preL ws).length - 1) 1 (by omega) (by omega)
 rw [show (preL ws).take 1 = [[]] from by rw [take_succ_getD [] z1, z2]; rfl] at this
 exact this
theorem prefixes_tr {ws : List Txt} (h : OkW ws) : Ev (fun k => impl_Trie_prefixes.f k (trN (preL ws) ws)) ((preL ws).map B, true) := by
 have := prefixes_ev (trN (preL ws) ws)
 rw [prefN_tr h] at this
 exact this
theorem trieOf_in (ws0 xs : List Txt) (w : Txt) (hw : w.length ≤ 12) (i : Nat) (hi : i ≤ 100000) (r : List Nd) (acc2 : List Txt) (hr : Ev (fun k => impl_trieOf.l0 k (ws0.map B) (acc2.map B) (xs.map B) (xs.length : Int) ((i + 1 : Nat) : Int)) r) :
  ∀ (d n : Nat) (acc : List Txt), n + d = w.length → acc ++ begF w (n + 1) d = acc2 → acc2.length ≤ 1000000 → Ev (fun k => impl_trieOf.l1 k (ws0.map B) (acc.map B) (B w) (xs.map B) (xs.length : Int) (i : Int) (w.length : Int) (n : Int)) r := by
 intro d
 induction d with
 | zero =>
  intro n acc h1 h2 h3
  rw [begF, List.append_nil] at h2
  subst h2
  refine Ev.step (fun k => impl_trieOf.l1.eq_2 ..) (Ev.ifF (by omega) ?_)
  rw [wrap64_succ i (by omega)]
  exact hr
 | succ d ih =>
  intro n acc h1 h2 h3
  have hl : acc.length ≤ 1000000 := by rw [← h2, List.length_append] at h3; omega
  refine Ev.step (fun k => impl_trieOf.l1.eq_2 ..) (Ev.ifT (by omega) ?_)
  rw [wrap64_succ n (by omega)]
  refine Ev.ifT (by omega) (Ev.ifT (by rw [size_B]; omega) (Ev.ifT (by rw [List.length_map]; omega) ?_))
  rw [extract_B, List.drop_zero, Int.toNat_natCast, Nat.sub_zero]
  have := ih (n + 1) (acc ++ [w.take (n + 1)]) (by omega) (by rw [← h2, begF]; simp) h3
  rw [List.map_append, List.map_singleton] at this
  exact this
theorem trieOf_out (ws0 xs : List Txt) (hl : xs.length ≤ 1000) (hw : ∀ w ∈ xs, w.length ≤ 12) (r : List Nd) (hr : Ev (fun k => impl_trieOf.l2 k (ws0.map B) ((preL xs).map B) ((preL xs).length : Int) 0 []) r) :
  ∀ (d i : Nat) (acc : List Txt), i + d = xs.length → acc ++ (xs.drop i).flatMap begs = [] :: xs.flatMap begs → Ev (fun k => impl_trieOf.l0 k (ws0.map B) (acc.map B) (xs.map B) (xs.length : Int) (i : Int)) r := by
 have hall := flatMap_begs_length xs hw
 have hpl := preL_length hw
 intro d
 induction d with
 | zero =>
  intro i acc h1 h2
  rw [List.drop_of_length_le (by omega), List.flatMap_nil, List.append_nil] at h2
  subst h2
  refine Ev.step (fun k => impl_trieOf.l0.eq_2 ..) (Ev.ifF (by omega) ?_)
  rw [set_eq _ (by rw [List.length_cons]; omega)]
  refine Ev.some_bind (Ev.ifT ?_ ?_)
  ·
   unfold SM.okL
   rw [Bool.and_eq_true, List.all_eq_true, decide_eq_true_eq]
   refine ⟨fun x hx => ?_, by rw [List.length_map]; show (preL xs).length ≤ _; omega⟩
   obtain ⟨y, hy, rfl⟩ := List.mem_map.1 hx
   have hy' : y ∈ preL xs := hy
   have : y.length ≤ 12 := by
    rcases mem_preL.1 hy' with rfl | ⟨w, hw', _, hp⟩
    ·
     simp
    ·
     exact Nat.le_trans hp.length_le (hw w hw')
   rw [decide_eq_true_eq, size_B]; omega
  ·
   rw [List.length_map]
   exact hr
 | succ d ih =>
  intro i acc h1 h2
  have hi : i < xs.length := by omega
  rw [drop_cons_getD [] hi, List.flatMap_cons, ← List.append_assoc] at h2
  refine Ev.step (fun k => impl_trieOf.l0.eq_2 ..) (Ev.ifT (by omega) (Ev.ifT (by omega) (Ev.ifT (by rw [List.length_map]; omega) ?_)))
  rw [rdB xs i hi, size_B]
  have hlen : (acc ++ begs (xs.getD i [])).length ≤ 1000000 := by
   have := congrArg List.length h2
   rw [List.length_append, List.length_cons] at this
   omega
  exact trieOf_in ws0 xs _ (hw _ (getD_mem hi)) i (by omega) r _ (ih (i + 1) _ (by omega) h2) (xs.getD i []).length 0 acc (by omega) (by rw [begs_begF]) hlen
theorem at_take {P : List Txt} (hA : Asc P) (q : Txt) (j : Nat) (hj : j < P.length) (hq : P.getD j [] = q) : ∀ n, n ≤ P.length → j < n → SM.at_ (List.take n (P.map B)) (B q) = (j : Int) := by
 intro n
 induction n with
 | zero => intro _ h; omega
 | succ n ih =>
  intro h1 h2
  have hn : n < P.length := by omega
  rw [← List.map_take, take_succ_getD [] hn, List.map_append, List.map_singleton]
  unfold SM.at_
  rw [List.reverse_append, List.reverse_singleton, List.singleton_append, SM.atR, data_B, data_B]
  by_cases e : P.getD n [] = q
  ·
   have : n = j := asc_inj hA hn hj (e.trans hq.symm)
   rw [if_pos e, List.length_reverse, List.length_map, List.length_take]; omega
  ·
   have hjn : j < n := by
    rcases Nat.lt_or_ge j n with h | h
    ·
     exact h
    ·
     have : j = n := by omega
     subst this; exact absurd hq e
   rw [if_neg e, List.map_take]
   exact ih (by omega) hjn
theorem trieOf_nodes {ws P : List Txt} (hs : Srt ws) (hA : Asc P) (hC : Clo P) (hW : ∀ p ∈ P, wordL p = true) (hP : P.length ≤ 100000) (hl : ws.length ≤ 100000) : ∀ (d i : Nat) (acc : List Nd), i + d = P.length → acc.length ≤ i →
  Ev (fun k => impl_trieOf.l2 k (ws.map B) (P.map B) (P.length : Int) (i : Int) acc) (acc ++ ((P.drop i).map fun p => mkN (ndL P ws p))) := by
 intro d
 induction d with
 | zero =>
  intro i acc h1 h2
  rw [List.drop_of_length_le (by omega), List.map_nil, List.append_nil]
  exact Ev.step (fun k => impl_trieOf.l2.eq_2 ..) (Ev.ifF (by omega) (Ev.now _))
 | succ d ih =>
  intro i acc h1 h2
  have hi : i < P.length := by omega
  have hm := getD_mem hi
  rw [drop_cons_getD [] hi, List.map_cons]
  refine Ev.step (fun k => impl_trieOf.l2.eq_2 ..) (Ev.ifT (by omega) (Ev.ifT (by omega) (Ev.ifT (by rw [List.length_map]; omega) ?_)))
  rw [rdB P i hi]
  obtain ⟨q, _, _, _, hq⟩ := search_ev ws (P.getD i []) (by omega) hs
  refine Ev.bind hq ?_
  have hcons : ∀ x : Nd, acc ++ (x :: (P.drop (i + 1)).map fun p => mkN (ndL P ws p)) = (acc ++ [x]) ++ (P.drop (i + 1)).map fun p => mkN (ndL P ws p) := fun x => by simp
  rw [hcons, toList_B]
  by_cases hp : P.getD i [] = []
  ·
   refine Ev.ifT hp (Ev.ifT (by omega) ?_)
   have hx : mkN (ndL P ws (P.getD i [])) = ⟨-1, -1, decide (P.getD i [] ∈ ws)⟩ := by unfold mkN ndL; rw [if_pos hp, if_pos hp]
   rw [hx, wrap64_succ i (by omega)]
   exact ih (i + 1) _ (by omega) (by simp; omega)
  ·
   have h0 : 0 < i := by
    rcases Nat.eq_zero_or_pos i with e | e
    ·
     rw [e, (clo_zero hA hC).2] at hp; exact absurd rfl hp
    ·
     exact e
   have hlen := List.length_pos_iff.2 hp
   have h12 := (wordL_iff.1 (hW _ hm)).2
   obtain ⟨j1, j2⟩ := clo_parent hA hC hi h0
   have hw1 : wrap64 (((B (P.getD i [])).size : Int) - 1) = ((P.getD i []).length - 1 : Nat) := by rw [size_B, wrap64_id (by omega) (by omega)]; omega
   rw [hw1]
   refine Ev.ifF hp (Ev.ifT (by omega) (Ev.ifT (by rw [size_B]; omega) (Ev.ifT (by rw [size_B]; omega) (Ev.ifT (by omega) ?_))))
   rw [extract_B, List.drop_zero, Int.toNat_natCast, Int.toNat_natCast, Nat.sub_zero, ← List.dropLast_eq_take, at_take hA _ _ (by omega) j2 (i + 1) (by omega) (by omega)]
   have hx : mkN (ndL P ws (P.getD i [])) = ⟨((bt (B (P.getD i [])) (((P.getD i []).length - 1 : Nat) : Int)) - 97) % 256, (placeL P (P.getD i []).dropLast : Int), decide (P.getD i [] ∈ ws)⟩ := by
    unfold mkN ndL
    rw [if_neg hp, if_neg hp, bt_B _ _ (by omega)]
    rfl
   rw [hx, wrap64_succ i (by omega)]
   exact ih (i + 1) _ (by omega) (by simp; omega)
theorem trieOf_srt {ws : List Txt} (hs : Srt ws) (hw : ∀ w ∈ ws, wordL w = true) (hl : ws.length ≤ 1000) : Ev (fun k => impl_trieOf.f k (ws.map B)) (trN (preL ws) ws) := by
 have hle : ∀ w ∈ ws, w.length ≤ 12 := fun w h => (wordL_iff.1 (hw w h)).2
 have hpl := preL_length hle
 have hn := trieOf_nodes hs (asc_preL ws) (clo_preL ws) (fun p hp => preL_word hw hp) (by omega) (by omega) (preL ws).length 0 [] (by omega) (by simp)
 rw [List.drop_zero, List.nil_append] at hn
 have e : (preL ws).map (fun p => mkN (ndL (preL ws) ws p)) = trN (preL ws) ws := by unfold trN nodesL; rw [List.map_map]; rfl
 rw [e] at hn
 unfold impl_trieOf.f
 rw [List.length_map]
 exact trieOf_out ws ws hl hle _ hn ws.length 0 [[]] (by omega) rfl
theorem trieOf_ev {ws : List Txt} (h : OkW ws) : Ev (fun k => impl_trieOf.f k (ws.map B)) (trN (preL ws) ws) := trieOf_srt (srt_asc h.asc) h.word (by have := h.len; omega)
theorem trN_set {ws : List Txt} : trN (preL ws) ws = trN (preL (setL ws)) (setL ws) := by
 have e : preL (setL ws) = preL ws := preL_congr fun w => mem_setL ws w
 rw [e]
 unfold trN nodesL
 rw [List.map_map, List.map_map]
 refine List.map_congr_left fun p _ => ?_
 show mkN (ndL (preL ws) ws p) = mkN (ndL (preL ws) (setL ws) p)
 unfold ndL
 rw [show decide (p ∈ ws) = decide (p ∈ setL ws) from decide_eq_decide.2 (mem_setL ws p).symm]
def wordsGo : List Nd → List Txt → List Txt
 | n :: r, p :: ps => if n.f2 = true then p :: wordsGo r ps else wordsGo r ps
 | _, _ => []
theorem wordsGo_mem : ∀ (N : List Nd) (ps : List Txt) (w : Txt), w ∈ wordsGo N ps → w ∈ ps
 | n :: r, p :: ps, w, h => by
  unfold wordsGo at h
  by_cases hf : n.f2 = true
  ·
   rw [if_pos hf] at h
   rcases List.mem_cons.1 h with e | h
   ·
    rw [e]; exact List.mem_cons_self
   ·
    exact List.mem_cons_of_mem _ (wordsGo_mem r ps w h)
  ·
   rw [if_neg hf] at h
   exact List.mem_cons_of_mem _ (wordsGo_mem r ps w h)
 | [], _, _, h => by simp [wordsGo] at h
 | _ :: _, [], _, h => by simp [wordsGo] at h
theorem wordsGo_len : ∀ (N : List Nd) (ps : List Txt), (wordsGo N ps).length ≤ N.length
 | n :: r, p :: ps => by
  have := wordsGo_len r ps
  unfold wordsGo
  by_cases hf : n.f2 = true
  ·
   rw [if_pos hf, List.length_cons, List.length_cons]; omega
  ·
   rw [if_neg hf, List.length_cons]; omega
 | [], _ => by simp [wordsGo]
 | _ :: _, [] => by simp [wordsGo]
theorem wordsGo_tr (P ws : List Txt) : ∀ Q : List Txt, wordsGo (Q.map fun p => mkN (ndL P ws p)) Q = Q.filter fun p => decide (p ∈ ws)
 | [] => rfl
 | q :: Q => by
  rw [List.map_cons, wordsGo, wordsGo_tr P ws Q, List.filter_cons]
  rfl
theorem words_loop (N : List Nd) (ps : List Txt) (hN : N.length ≤ 1000000) (hp : ps.length = N.length) : ∀ (d i : Nat) (acc : List Txt), i + d = N.length → acc.length ≤ i →
  Ev (fun k => impl_Trie_words.l0 k (ps.map B) (acc.map B) N (N.length : Int) (i : Int)) ((acc ++ wordsGo (N.drop i) (ps.drop i)).map B) := by
 intro d
 induction d with
 | zero =>
  intro i acc h1 h2
  rw [List.drop_of_length_le (by omega)]
  exact Ev.step (fun k => impl_Trie_words.l0.eq_2 ..) (Ev.ifF (by omega) (by simpa [wordsGo] using Ev.now _))
 | succ d ih =>
  intro i acc h1 h2
  have hi : i < N.length := by omega
  rw [List.drop_eq_getElem_cons hi, drop_cons_getD [] (show i < ps.length by omega), wordsGo]
  refine Ev.step (fun k => impl_Trie_words.l0.eq_2 ..) (Ev.ifT (by omega) (Ev.ifT (by omega) (Ev.ifT (by omega) ?_)))
  rw [rd_get N i hi]
  by_cases hf : N[i].f2 = true
  ·
   rw [if_pos hf]
   refine Ev.ifT hf (Ev.ifT (by rw [List.length_map]; omega) (Ev.ifT (by rw [List.length_map]; omega) ?_))
   rw [rdB ps i (by omega), wrap64_succ i (by omega)]
   have := ih (i + 1) (acc ++ [ps.getD i []]) (by omega) (by simp; omega)
   rw [List.map_append (l₁ := acc), List.map_singleton, List.append_assoc] at this
   exact this
  ·
   rw [if_neg hf]
   refine Ev.ifF hf ?_
   rw [wrap64_succ i (by omega)]
   exact ih (i + 1) acc (by omega) (by omega)
theorem words_of {N : List Nd} {ps : List Txt} (h : prefN N = some ps) : N.length ≤ 481 ∧ ps.length = N.length ∧ (∀ p ∈ ps, ∀ c ∈ p, letterB c = true) ∧ Ev (fun k => impl_Trie_words.f k N) ((wordsGo N ps).map B) := by
 have hp := prefixes_ev N
 rw [h] at hp
 unfold prefN at h
 by_cases hn : 1 ≤ N.length ∧ N.length ≤ 481
 ·
  rw [if_pos hn] at h
  obtain ⟨h1, h2⟩ := prefGo_ok _ _ _ h (by simp)
  rw [List.length_drop, List.length_singleton] at h2
  refine ⟨hn.2, by omega, h1, ?_⟩
  unfold impl_Trie_words.f
  refine Ev.bind hp ?_
  exact words_loop N ps (by omega) (by omega) N.length 0 [] (by omega) (by simp)
 ·
  rw [if_neg hn] at h; cases h
theorem words_ev {ws : List Txt} (h : OkW ws) : Ev (fun k => impl_Trie_words.f k (trN (preL ws) ws)) (ws.map B) := by
 obtain ⟨_, _, _, h4⟩ := words_of (prefN_tr h)
 have e : wordsGo (trN (preL ws) ws) (preL ws) = ws := by
  have : trN (preL ws) ws = (preL ws).map fun p => mkN (ndL (preL ws) ws p) := by unfold trN nodesL; rw [List.map_map]; rfl
  rw [this, wordsGo_tr, filter_preL h.asc]
 rwa [e] at h4
theorem isSorted_loop (ws : List Txt) (hl : ws.length ≤ 4611686018427387903) : ∀ (n : Nat), n < ws.length → ∃ b : Bool, (b = true ↔ ∀ j, j < n → ¬ ws.getD (j + 1) [] < ws.getD j []) ∧ Ev (fun k => slices_IsSorted_string_string.l0 k (ws.map B) (n : Int)) b := by
 intro n
 induction n with
 | zero =>
  intro _
  exact ⟨true, by simp, Ev.step (fun k => slices_IsSorted_string_string.l0.eq_2 ..) (Ev.ifF (by simp) (Ev.now _))⟩
 | succ n ih =>
  intro hn
  have hw : wrap64 (((n + 1 : Nat) : Int) - 1) = (n : Int) := by rw [wrap64_id (by omega) (by omega)]; omega
  by_cases hlt : ws.getD (n + 1) [] < ws.getD n []
  ·
   refine ⟨false, ?_, Ev.step (fun k => slices_IsSorted_string_string.l0.eq_2 ..) (Ev.ifT (by omega) (Ev.ifT (by omega) (Ev.ifT (by rw [List.length_map]; omega) (Ev.ifT (by rw [hw]; omega) (Ev.ifT (by rw [hw, List.length_map]; omega) ?_)))))⟩
   ·
    simp only [Bool.false_eq_true, false_iff]
    exact fun h => h n (Nat.lt_succ_self n) hlt
   ·
    rw [hw, rdB ws (n + 1) hn, rdB ws n (by omega), less_eq, decide_eq_true hlt]
    exact Ev.some_bind (Ev.ifT rfl (Ev.now _))
  ·
   obtain ⟨b, hb, he⟩ := ih (by omega)
   refine ⟨b, hb.trans ⟨fun h j hj => ?_, fun h j hj => h j (by omega)⟩, Ev.step (fun k => slices_IsSorted_string_string.l0.eq_2 ..) (Ev.ifT (by omega) (Ev.ifT (by omega) (Ev.ifT (by rw [List.length_map]; omega) (Ev.ifT (by rw [hw]; omega) (Ev.ifT (by rw [hw, List.length_map]; omega) ?_)))))⟩
   ·
    by_cases e : j = n
    ·
     rw [e]; exact hlt
    ·
     exact h j (by omega)
   ·
    rw [hw, rdB ws (n + 1) hn, rdB ws n (by omega), less_eq, decide_eq_false hlt]
    exact Ev.some_bind (Ev.ifF Bool.false_ne_true he)
theorem isSorted_ev (ws : List Txt) (hl : ws.length ≤ 4611686018427387903) : ∃ b : Bool, (b = true ↔ Srt ws) ∧ Ev (fun k => slices_IsSorted_string_string.f k (ws.map B)) b := by
 unfold slices_IsSorted_string_string.f
 rcases Nat.eq_zero_or_pos ws.length with h0 | h0
 ·
  refine ⟨true, ⟨fun _ j hj => by omega, fun _ => rfl⟩, ?_⟩
  rw [List.length_map, h0]
  exact Ev.step (fun k => slices_IsSorted_string_string.l0.eq_2 ..) (Ev.ifF (by rw [wrap64_id (by omega) (by omega)]; omega) (Ev.now _))
 ·
  obtain ⟨b, hb, he⟩ := isSorted_loop ws hl (ws.length - 1) (by omega)
  refine ⟨b, hb.trans ⟨fun h j hj => h j (by omega), fun h j hj => h j (by omega)⟩, ?_⟩
  rw [List.length_map, show wrap64 ((ws.length : Int) - 1) = ((ws.length - 1 : Nat) : Int) from by rw [wrap64_id (by omega) (by omega)]; omega]
  exact he
theorem equal_loop (M N : List Nd) (hM : M.length ≤ 4611686018427387903) (he : M.length = N.length) : ∀ (d i : Nat), i + d = M.length → Ev (fun k => impl_Node.l0 k M N (M.length : Int) (i : Int)) (decide (M.drop i = N.drop i)) := by
 intro d
 induction d with
 | zero =>
  intro i h1
  refine Ev.step (fun k => impl_Node.l0.eq_2 ..) (Ev.ifF (by omega) ?_)
  rw [decide_eq_true (show M.drop i = N.drop i by rw [List.drop_of_length_le (by omega), List.drop_of_length_le (by omega)])]
  exact Ev.now _
 | succ d ih =>
  intro i h1
  refine Ev.step (fun k => impl_Node.l0.eq_2 ..) (Ev.ifT (by omega) (Ev.ifT (by omega) (Ev.ifT (by omega) (Ev.ifT (by omega) ?_))))
  rw [node_ne, rd_get M i (by omega), rd_get N i (by omega), List.drop_eq_getElem_cons (show i < M.length by omega), List.drop_eq_getElem_cons (show i < N.length by omega)]
  by_cases e : M[i] = N[i]
  ·
   refine Ev.ifF (by simp [e]) ?_
   rw [wrap64_succ i (by omega), show decide (M[i] :: M.drop (i + 1) = N[i] :: N.drop (i + 1)) = decide (M.drop (i + 1) = N.drop (i + 1)) from decide_eq_decide.2 ⟨fun h => (List.cons.inj h).2, fun h => by rw [e, h]⟩]
   exact ih (i + 1) (by omega)
  ·
   refine Ev.ifT (by simp [e]) ?_
   rw [show decide (M[i] :: M.drop (i + 1) = N[i] :: N.drop (i + 1)) = false from decide_eq_false fun h => e (List.cons.inj h).1]
   exact Ev.now _
theorem equal_ev (M N : List Nd) (hM : M.length ≤ 4611686018427387903) : Ev (fun k => impl_Node.f k M N) (decide (M = N)) := by
 unfold impl_Node.f
 by_cases he : M.length = N.length
 ·
  refine Ev.ifT (by omega) ?_
  have := equal_loop M N hM he M.length 0 (by omega)
  rwa [List.drop_zero, List.drop_zero] at this
 ·
  rw [decide_eq_false fun e => he (by rw [e])]
  exact Ev.ifF (by omega) (Ev.now _)
theorem isTrie_ev (N : List Nd) : ∃ b : Bool, (b = true ↔ IsTr N) ∧ Ev (fun k => impl_isTrie.f k N) b := by
 have hpre := prefixes_ev N
 have no : ∀ M : List Nd, Ev (fun k => impl_isTrie.j0 k true M) false := fun M => Ev.step (fun k => impl_isTrie.j0.eq_2 ..) (Ev.ifT rfl (Ev.now _))
 cases hp : prefN N with
 | none =>
  rw [hp] at hpre
  refine ⟨false, ?_, ?_⟩
  ·
   simp only [Bool.false_eq_true, false_iff]
   rintro ⟨ws, h, rfl⟩
   rw [prefN_tr h] at hp; cases hp
  ·
   unfold impl_isTrie.f
   exact Ev.bind hpre (Ev.ifF Bool.false_ne_true (no N))
 | some ps =>
  rw [hp] at hpre
  obtain ⟨w1, w2, w3, w4⟩ := words_of hp
  have hany : impl_isTrie_any.f (ps.map B) = some (decide (∃ p ∈ ps, 12 < p.length)) := by
   unfold impl_isTrie_any.f
   congr 1
   rw [Bool.eq_iff_iff, List.any_eq_true, decide_eq_true_eq]
   constructor
   ·
    rintro ⟨x, hx, e⟩
    obtain ⟨y, hy, rfl⟩ := List.mem_map.1 hx
    refine ⟨y, hy, ?_⟩
    unfold impl_isTrie_any.p at e
    rw [size_B, decide_eq_true_eq] at e
    omega
   ·
    rintro ⟨y, hy, e⟩
    refine ⟨B y, List.mem_map.2 ⟨y, hy, rfl⟩, ?_⟩
    unfold impl_isTrie_any.p
    rw [size_B, decide_eq_true_eq]
    omega
  by_cases hlong : ∃ p ∈ ps, 12 < p.length
  ·
   rw [decide_eq_true hlong] at hany
   refine ⟨false, ?_, ?_⟩
   ·
    simp only [Bool.false_eq_true, false_iff]
    rintro ⟨ws, h, rfl⟩
    rw [prefN_tr h] at hp
    obtain rfl := Option.some.inj hp
    obtain ⟨p, hpm, hpl⟩ := hlong
    have := (wordL_iff.1 (preL_word h.word hpm)).2
    omega
   ·
    unfold impl_isTrie.f
    refine Ev.bind hpre (Ev.ifT rfl ?_)
    show Ev (fun k => (impl_isTrie_any.f (ps.map B)).bind _) false
    rw [hany]
    exact Ev.some_bind (no N)
  ·
   rw [decide_eq_false hlong] at hany
   have hword : ∀ w ∈ wordsGo N ps, wordL w = true := fun w hw => by
    have hm := wordsGo_mem N ps w hw
    refine wordL_iff.2 ⟨w3 w hm, ?_⟩
    rcases Nat.lt_or_ge 12 w.length with h | h
    ·
     exact absurd ⟨w, hm, h⟩ hlong
    ·
     exact h
   have hwl := wordsGo_len N ps
   have hcase : ∀ b : Bool, Ev (fun k => impl_isTrie.j0 k false N) b → Ev (fun k => impl_isTrie.f k N) b := fun b hb => by
    unfold impl_isTrie.f
    refine Ev.bind hpre (Ev.ifT rfl ?_)
    show Ev (fun k => (impl_isTrie_any.f (ps.map B)).bind _) b
    rw [hany]
    exact Ev.some_bind hb
   have hval : ∀ ws, OkW ws → N = trN (preL ws) ws → wordsGo N ps = ws := fun ws h e => by
    subst e
    rw [prefN_tr h] at hp
    obtain rfl := Option.some.inj hp
    have : trN (preL ws) ws = (preL ws).map fun p => mkN (ndL (preL ws) ws p) := by unfold trN nodesL; rw [List.map_map]; rfl
    rw [this, wordsGo_tr, filter_preL h.asc]
   by_cases h40 : (wordsGo N ps).length ≤ 40
   ·
    obtain ⟨b, hb, hsv⟩ := isSorted_ev (wordsGo N ps) (by omega)
    by_cases hs : Srt (wordsGo N ps)
    ·
     have hbt := hb.2 hs
     subst hbt
     refine ⟨decide (trN (preL (wordsGo N ps)) (wordsGo N ps) = N), ?_, hcase _ ?_⟩
     ·
      rw [decide_eq_true_eq]
      constructor
      ·
       intro e
       refine ⟨setL (wordsGo N ps), ⟨asc_setL _, Nat.le_trans (setL_length_le _) h40, fun w hw => hword w ((mem_setL _ w).1 hw)⟩, ?_⟩
       rw [← trN_set, e]
      ·
       rintro ⟨ws, h, e⟩
       rw [hval ws h e, e]
     ·
      refine Ev.step (fun k => impl_isTrie.j0.eq_2 ..) (Ev.ifF Bool.false_ne_true (Ev.bind w4 (Ev.ifT (by rw [List.length_map]; omega) (Ev.bind hsv (Ev.ifT rfl (Ev.bind (trieOf_srt hs hword (by omega)) (Ev.bind (equal_ev _ _ ?_) (Ev.now _))))))))
      rw [trN_length]
      have := preL_length (ws := wordsGo N ps) (fun w hw => (wordL_iff.1 (hword w hw)).2)
      omega
    ·
     have hbf : b = false := by
      cases b with
      | false => rfl
      | true => exact absurd (hb.1 rfl) hs
     subst hbf
     refine ⟨false, ?_, hcase _ (Ev.step (fun k => impl_isTrie.j0.eq_2 ..) (Ev.ifF Bool.false_ne_true (Ev.bind w4 (Ev.ifT (by rw [List.length_map]; omega) (Ev.bind hsv (Ev.ifF Bool.false_ne_true (Ev.now _)))))))⟩
     simp only [Bool.false_eq_true, false_iff]
     rintro ⟨ws, h, e⟩
     exact hs (by rw [hval ws h e]; exact srt_asc h.asc)
   ·
    refine ⟨false, ?_, hcase _ (Ev.step (fun k => impl_isTrie.j0.eq_2 ..) (Ev.ifF Bool.false_ne_true (Ev.bind w4 (Ev.ifF (by rw [List.length_map]; omega) (Ev.now _)))))⟩
    simp only [Bool.false_eq_true, false_iff]
    rintro ⟨ws, h, e⟩
    rw [hval ws h e] at h40
    exact h40 h.len
theorem eqNode_self (a b : Int) (c : Bool) : laws_eqNode.f a b c a b c = some true := by
 unfold laws_eqNode.f
 rw [if_pos rfl, if_pos rfl, if_neg (by simp)]
theorem eqNodeS_loop (N : List Nd) (hN : N.length ≤ 4611686018427387903) : ∀ (d i : Nat), i + d = N.length → Ev (fun k => laws_eqNodeS.l0 k N N (i : Int)) true := by
 intro d
 induction d with
 | zero => intro i h; exact Ev.step (fun k => laws_eqNodeS.l0.eq_2 ..) (Ev.ifF (by omega) (Ev.now _))
 | succ d ih =>
  intro i h
  refine Ev.step (fun k => laws_eqNodeS.l0.eq_2 ..) (Ev.ifT (by omega) (Ev.ifT (by omega) (Ev.ifT (by omega) ?_)))
  rw [eqNode_self]
  refine Ev.some_bind (Ev.ifT rfl ?_)
  rw [wrap64_succ i (by omega)]
  exact ih (i + 1) (by omega)
theorem eqTrie_ev (N : List Nd) (hN : N.length ≤ 4611686018427387903) : Ev (fun k => laws_eqTrie.f k N N) true := by
 unfold laws_eqTrie.f laws_eqNodeS.f
 exact Ev.bind (f := fun k t => if t = true then some true else some false) (Ev.ifT rfl (eqNodeS_loop N hN N.length 0 (by omega))) (Ev.ifT rfl (Ev.now _))
def toN (l : List S67) : List Nd := l.map fun x => ⟨x.f0, x.f1, x.f2⟩
theorem toN_length (l : List S67) : (toN l).length = l.length := by simp [toN]
theorem szTrie_eq (l : List S67) (h : l.length ≤ 9223372036854775807) : laws_szTrie.f l 1048576 = some (if l.length ≤ 1048576 then 1048576 - (l.length : Int) else -1) := by
 unfold laws_szTrie.f laws_szNodeS.f
 rw [wrap64_id (by omega) (by omega)]
 by_cases hs : l.length ≤ 1048576
 ·
  rw [if_neg (by omega), if_pos hs, Option.bind_some, if_neg (by omega)]
 ·
  rw [if_pos (by omega), if_neg hs, Option.bind_some, if_pos (by omega)]
theorem toNodeS_loop (l : List S67) (hl : l.length ≤ 1048576) : ∀ (d i : Nat), i + d = l.length → Ev (fun k => laws_toNodeS.l0 k l ((toN l).take i ++ List.replicate ((toN l).length - i) z64) (i : Int)) (toN l) := by
 intro d
 induction d with
 | zero =>
  intro i h
  rw [List.take_of_length_le (by rw [toN_length]; omega), show (toN l).length - i = 0 from by rw [toN_length]; omega, List.replicate_zero, List.append_nil]
  exact Ev.step (fun k => laws_toNodeS.l0.eq_2 ..) (Ev.ifF (by omega) (Ev.now _))
 | succ d ih =>
  intro i h
  have hi : i < l.length := by omega
  have hi2 : i < (toN l).length := by rw [toN_length]; exact hi
  have hlen : ((toN l).take i ++ List.replicate ((toN l).length - i) z64).length = l.length := by
   rw [List.length_append, List.length_take, List.length_replicate, toN_length]; omega
  refine Ev.step (fun k => laws_toNodeS.l0.eq_2 ..) (Ev.ifT (by omega) (Ev.ifT (by omega) ?_))
  unfold laws_toNode.f
  refine Ev.some_bind (Ev.ifT (by rw [hlen]; omega) ?_)
  have hx : (⟨(rd_T67 l (i : Int)).f0, (rd_T67 l (i : Int)).f1, (rd_T67 l (i : Int)).f2⟩ : Nd) = (toN l).getD i z64 := by
   unfold rd_T67 toN
   rw [Int.toNat_natCast, getD_lt _ hi, getD_lt _ (by simpa using hi), List.getElem_map]
  rw [hx, Int.toNat_natCast, fill_set _ _ _ hi2, wrap64_succ i (by omega)]
  exact ih (i + 1) (by omega)
theorem toTrie_ev (l : List S67) (hl : l.length ≤ 1048576) : Ev (fun k => laws_toTrie.f k l) (toN l) := by
 unfold laws_toTrie.f laws_toNodeS.f
 refine Ev.bind (f := fun k t => some t) (Ev.ifT (by omega) (Ev.ifT (by omega) ?_)) (Ev.now _)
 have := toNodeS_loop l hl l.length 0 (by omega)
 rw [List.take_zero, List.nil_append, toN_length, Nat.sub_zero] at this
 exact this
theorem trie_both (N : List Nd) : (IsTr N ∧ Ev (fun k => spec_l2Trie.f k N) true ∧ Ev (fun k => impl_isTrie.f k N) true) ∨ (¬ IsTr N ∧ Ev (fun k => spec_l2Trie.f k N) false ∧ Ev (fun k => impl_isTrie.f k N) false) := by
 obtain ⟨b1, c1, e1⟩ := l2Trie_ev N
 obtain ⟨b2, c2, e2⟩ := isTrie_ev N
 by_cases h : IsTr N
 ·
  obtain rfl := c1.2 h
  obtain rfl := c2.2 h
  exact .inl ⟨h, e1, e2⟩
 ·
  cases b1 with
  | true => exact absurd (c1.1 rfl) h
  | false =>
   cases b2 with
   | true => exact absurd (c2.1 rfl) h
   | false => exact .inr ⟨h, e1, e2⟩
theorem drawn_both (N : List Nd) : (∃ ws, OkW ws ∧ 0 < ws.length ∧ N = trN (preL ws) ws ∧ Ev (fun k => spec_l9Drawn.f k N) true ∧ Ev (fun k => impl_isDrawn.f k N) true) ∨ (Ev (fun k => spec_l9Drawn.f k N) false ∧ Ev (fun k => impl_isDrawn.f k N) false) := by
 unfold spec_l9Drawn.f impl_isDrawn.f
 rcases trie_both N with ⟨⟨ws, h, rfl⟩, e1, e2⟩ | ⟨h, e1, e2⟩
 ·
  rcases Nat.eq_zero_or_pos ws.length with h0 | h0
  ·
   refine .inr ⟨Ev.bind e1 (Ev.ifT rfl (Ev.bind (l2Words_ev h) ?_)), Ev.bind e2 (Ev.ifT rfl (Ev.bind (words_ev h) ?_))⟩
   ·
    rw [List.length_map, decide_eq_false (by omega)]; exact Ev.now _
   ·
    rw [List.length_map, decide_eq_false (by omega)]; exact Ev.now _
  ·
   refine .inl ⟨ws, h, h0, rfl, Ev.bind e1 (Ev.ifT rfl (Ev.bind (l2Words_ev h) ?_)), Ev.bind e2 (Ev.ifT rfl (Ev.bind (words_ev h) ?_))⟩
   ·
    rw [List.length_map, decide_eq_true (by omega)]; exact Ev.now _
   ·
    rw [List.length_map, decide_eq_true (by omega)]; exact Ev.now _
 ·
  exact .inr ⟨Ev.bind e1 (Ev.ifF Bool.false_ne_true (Ev.now _)), Ev.bind e2 (Ev.ifF Bool.false_ne_true (Ev.now _))⟩
def fr (a b : Nat) : Int × Int := (((a / Nat.gcd b a : Nat) : Int), ((b / Nat.gcd b a : Nat) : Int))
theorem wrapN {n : Nat} (h : n ≤ 9223372036854775807) : wrap64 (n : Int) = (n : Int) := wrap64_id (by omega) (by omega)
theorem divisor_ev : ∀ (b a : Nat), Ev (fun k => impl_divisor.l0 k (a : Int) (b : Int)) ((Nat.gcd b a : Nat) : Int) := by
 intro b
 induction b using Nat.strongRecOn with
 | _ b ih =>
  intro a
  by_cases hb : b = 0
  ·
   subst hb
   rw [Nat.gcd_zero_left]
   exact Ev.step (fun k => impl_divisor.l0.eq_2 ..) (Ev.ifT rfl (Ev.now _))
  ·
   refine Ev.step (fun k => impl_divisor.l0.eq_2 ..) (Ev.ifF (by omega) ?_)
   rw [← Int.ofNat_tmod, Nat.gcd_rec]
   exact ih (a % b) (Nat.mod_lt _ (by omega)) b
theorem frac_ev (a b : Nat) (ha : a ≤ 9223372036854775807) (hb : 0 < b) (hb2 : b ≤ 9223372036854775807) : Ev (fun k => impl_fraction.f k (a : Int) (b : Int)) (fr a b) := by
 have hg : 0 < Nat.gcd b a := Nat.gcd_pos_of_pos_left a hb
 have h1 := Nat.div_le_self a (Nat.gcd b a)
 have h2 := Nat.div_le_self b (Nat.gcd b a)
 unfold impl_fraction.f impl_divisor.f
 refine Ev.bind (f := fun k t => if t = 0 then none else some (wrap64 (Int.tdiv (a : Int) t), wrap64 (Int.tdiv (b : Int) t))) (divisor_ev b a) (Ev.ifF (by omega) ?_)
 rw [← Int.ofNat_tdiv, ← Int.ofNat_tdiv, wrapN (Nat.le_trans h1 ha), wrapN (Nat.le_trans h2 hb2)]
 exact Ev.now _
theorem cut_loop (a b : Nat) (ha : a ≤ 9223372036854775807) (hb : 0 < b) (hb2 : b ≤ 9223372036854775807) : ∀ (y x : Nat), Nat.gcd y x = Nat.gcd b a → Ev (fun k => spec_l9Cut.l0 k (a : Int) (b : Int) (x : Int) (y : Int)) (fr a b) := by
 have hg : 0 < Nat.gcd b a := Nat.gcd_pos_of_pos_left a hb
 have h1 := Nat.div_le_self a (Nat.gcd b a)
 have h2 := Nat.div_le_self b (Nat.gcd b a)
 intro y
 induction y using Nat.strongRecOn with
 | _ y ih =>
  intro x hxy
  by_cases hy : y = 0
  ·
   subst hy
   rw [Nat.gcd_zero_left] at hxy
   subst hxy
   refine Ev.step (fun k => spec_l9Cut.l0.eq_2 ..) (Ev.ifF (by omega) ?_)
   have hm : spec_l1Most.f (((Nat.gcd b a : Nat) : Int)) 1 = some ((Nat.gcd b a : Nat) : Int) := by
    unfold spec_l1Most.f
    by_cases h : ((Nat.gcd b a : Nat) : Int) > 1
    ·
     rw [if_pos h]
    ·
     rw [if_neg h]; congr 1; omega
   rw [hm]
   refine Ev.some_bind (Ev.ifF (by omega) (Ev.some_bind (Ev.ifF (by omega) ?_)))
   rw [← Int.ofNat_tdiv, ← Int.ofNat_tdiv, wrapN (Nat.le_trans h1 ha), wrapN (Nat.le_trans h2 hb2)]
   exact Ev.now _
  ·
   refine Ev.step (fun k => spec_l9Cut.l0.eq_2 ..) (Ev.ifT (by omega) (Ev.ifF (by omega) ?_))
   rw [← Int.ofNat_tmod]
   exact ih (x % y) (Nat.mod_lt _ (by omega)) y (by rw [← Nat.gcd_rec]; exact hxy)
theorem cut_ev (a b : Nat) (ha : a ≤ 9223372036854775807) (hb : 0 < b) (hb2 : b ≤ 9223372036854775807) : Ev (fun k => spec_l9Cut.f k (a : Int) (b : Int)) (fr a b) := cut_loop a b ha hb hb2 b a rfl
theorem l3Under_loop (ws : List Txt) (p : Txt) (hl : ws.length ≤ 1000000) (hw : ∀ w ∈ ws, w.length ≤ 12) : ∀ (d i : Nat) (acc : List Txt), i + d = ws.length → acc.length ≤ i →
  Ev (fun k => spec_l3Under.l0 k (ws.map B) (B p) (acc.map B) (i : Int)) ((acc ++ (ws.drop i).filter fun w => hasPre w p).map B) := by
 intro d
 induction d with
 | zero =>
  intro i acc h1 h2
  rw [List.drop_of_length_le (by omega), List.filter_nil, List.append_nil]
  exact Ev.step (fun k => spec_l3Under.l0.eq_2 ..) (Ev.ifF (by rw [List.length_map]; omega) (Ev.now _))
 | succ d ih =>
  intro i acc h1 h2
  have hi : i < ws.length := by omega
  have hm := hw _ (getD_mem hi)
  rw [drop_cons_getD [] hi, List.filter_cons]
  refine Ev.step (fun k => spec_l3Under.l0.eq_2 ..) (Ev.ifT (by rw [List.length_map]; omega) (Ev.ifT (by omega) ?_))
  rw [rdB ws i hi, begins_eq _ _ (by omega)]
  refine Ev.some_bind ?_
  cases hq : hasPre (ws.getD i []) p with
  | true =>
   rw [if_pos rfl]
   refine Ev.ifT rfl (Ev.ifT (by rw [List.length_map]; omega) ?_)
   rw [wrap64_succ i (by omega)]
   have := ih (i + 1) (acc ++ [ws.getD i []]) (by omega) (by simp; omega)
   rw [List.map_append (l₁ := acc), List.map_singleton, List.append_assoc] at this
   exact this
  | false =>
   rw [if_neg Bool.false_ne_true]
   refine Ev.ifF Bool.false_ne_true ?_
   rw [wrap64_succ i (by omega)]
   exact ih (i + 1) acc (by omega) (by omega)
theorem l3Under_ev (ws : List Txt) (p : Txt) (hl : ws.length ≤ 1000000) (hw : ∀ w ∈ ws, w.length ≤ 12) : Ev (fun k => spec_l3Under.f k (ws.map B) (B p)) ((ws.filter fun w => hasPre w p).map B) := by
 have := l3Under_loop ws p hl hw ws.length 0 [] (by omega) (by simp)
 rw [List.drop_zero, List.nil_append] at this
 exact this
theorem under_ev {ws : List Txt} (h : OkW ws) (p : Txt) (hp : p.length ≤ 4611686018427387900) : Ev (fun k => impl_Trie_under.f k (trN (preL ws) ws) (B p)) ((ws.filter fun w => hasPre w p).map B) := by
 unfold impl_Trie_under.f
 refine Ev.bind (words_ev h) (Ev.ifT (by rw [List.length_map]; have := h.len; omega) ?_)
 rw [filt_of (fun x => hasPre x.data.toList p) (fun x hx => by
  obtain ⟨w, hw, rfl⟩ := List.mem_map.1 hx
  rw [data_B]
  exact HasPrefix_eq w p (by have := h.le w hw; omega) hp)]
 rw [List.filter_map]
 have e : (fun x : ByteArray => hasPre x.data.toList p) ∘ B = fun w => hasPre w p := by
  funext w; show hasPre (B w).data.toList p = _; rw [data_B]
 rw [e]
 exact Ev.now _
end Go.Proofs.YtpgobnhklnglhaaGreatDoor.L
namespace Go.Proofs.YtpgobnhklnglhaaGreatDoor.M
def sumL (f : Txt → Nat) : List Txt → Nat
 | [] => 0
 | x :: r => f x + sumL f r
theorem sumL_congr {f g : Txt → Nat} : ∀ {l : List Txt}, (∀ x ∈ l, f x = g x) → sumL f l = sumL g l
 | [], _ => rfl
 | x :: r, h => by rw [sumL, sumL, h x (by simp), sumL_congr fun y hy => h y (List.mem_cons_of_mem _ hy)]
theorem sumL_zero {f : Txt → Nat} : ∀ {l : List Txt}, (∀ x ∈ l, f x = 0) → sumL f l = 0
 | [], _ => rfl
 | x :: r, h => by rw [sumL, h x (by simp), sumL_zero fun y hy => h y (List.mem_cons_of_mem _ hy)]
theorem sumL_add (f g : Txt → Nat) : ∀ l : List Txt, sumL (fun x => f x + g x) l = sumL f l + sumL g l
 | [] => rfl
 | x :: r => by rw [sumL, sumL, sumL, sumL_add f g r]; omega
theorem sumL_le (f : Txt → Nat) (b : Nat) : ∀ l : List Txt, (∀ x ∈ l, f x ≤ b) → sumL f l ≤ b * l.length
 | [], _ => by simp [sumL]
 | x :: r, h => by
  have h1 := h x (by simp)
  have h2 := sumL_le f b r fun y hy => h y (List.mem_cons_of_mem _ hy)
  rw [sumL, List.length_cons, Nat.mul_succ]; omega
theorem sumL_one {Q : List Txt} (hQ : Asc Q) (a : Txt) (F : Txt → Nat) : a ∈ Q → sumL (fun p => if p = a then F p else 0) Q = F a := by
 induction Q with
 | nil => intro h; simp at h
 | cons x r ih =>
  intro h
  unfold Asc at hQ
  rw [List.pairwise_cons] at hQ
  by_cases e : x = a
  ·
   subst e
   rw [sumL, if_pos rfl, sumL_zero fun y hy => if_neg fun e => ?_]
   ·
    omega
   ·
    subst e; exact txt_irrefl _ (hQ.1 _ hy)
  ·
   rw [sumL, if_neg e, ih hQ.2 ((List.mem_cons.1 h).resolve_left fun q => e q.symm)]
   omega
end Go.Proofs.YtpgobnhklnglhaaGreatDoor.M
namespace Go.Proofs.YtpgobnhklnglhaaGreatDoor.L
open Go.RowKit Go.Proofs.YtpgobnhklnglhaaGreatDoor.P Go.Proofs.YtpgobnhklnglhaaGreatDoor.M Go.Proofs.YtpgobnhklnglhaaGreatDoorW.PrintWords Go.Proofs.YtpgobnhklnglhaaGreatDoorW.PrintLast Go.Proofs.YtpgobnhklnglhaaGreatDoorW.PrintMore
set_option linter.unusedVariables false
theorem eqA2_self (a b : Int) : laws_eqIntA2.f a b a b = some true := by unfold laws_eqIntA2.f; simp
theorem areLettersW_eq (l : List UInt8) (hl : l.length ≤ 9223372036854775807) : impl_areLetters.f (B l) = some (l.all letterB) := by
 unfold impl_areLetters.f
 rw [if_pos (by simpa using hl), data_B]
 rfl
theorem isWord_eq (l : List UInt8) : impl_isWord.f (B l) = some (wordL l) := by
 unfold impl_isWord.f wordL
 by_cases h : l.length ≤ 12
 ·
  rw [if_pos (by simp; omega), areLettersW_eq l (by omega)]; simp [h]
 ·
  rw [if_neg (by simp; omega)]; simp [h]
theorem index_ev (l : List Txt) (p : Txt) (hl : l.length ≤ 1000000) (h : p ∈ l) : Ev (fun k => slices_Index_string_string.f k (l.map B) (B p)) ((placeL l p : Nat) : Int) := by
 have loop : ∀ d i, i + d = l.length → p ∈ l.drop i → Ev (fun k => slices_Index_string_string.l0 k (l.map B) (B p) (l.length : Int) (i : Int)) ((i + placeL (l.drop i) p : Nat) : Int) := by
  intro d
  induction d with
  | zero => intro i h1 h2; rw [List.drop_of_length_le (by omega)] at h2; simp at h2
  | succ d ih =>
   intro i h1 h2
   have hi : i < l.length := by omega
   rw [drop_cons_getD [] hi] at h2 ⊢
   refine Ev.step (fun k => slices_Index_string_string.l0.eq_2 ..) (Ev.ifT (by omega) (Ev.ifT (by omega) (Ev.ifT (by rw [List.length_map]; omega) ?_)))
   rw [rdB l i hi, toList_B, toList_B, placeL]
   by_cases e : l.getD i [] = p
   ·
    rw [if_pos e]
    exact Ev.ifT e.symm (Ev.now _)
   ·
    rw [if_neg e]
    refine Ev.ifF (fun q => e q.symm) ?_
    rw [wrap64_succ i (by omega), show i + (placeL (l.drop (i + 1)) p + 1) = i + 1 + placeL (l.drop (i + 1)) p from by omega]
    exact ih (i + 1) (by omega) ((List.mem_cons.1 h2).resolve_left fun q => e q.symm)
 have := loop l.length 0 (by omega) (by rw [List.drop_zero]; exact h)
 rw [List.drop_zero, Nat.zero_add] at this
 unfold slices_Index_string_string.f
 rw [List.length_map]
 exact this
theorem index_miss (l : List Txt) (p : Txt) (hl : l.length ≤ 1000000) (h : p ∉ l) : Ev (fun k => slices_Index_string_string.f k (l.map B) (B p)) (-1) := by
 have loop : ∀ d i, i + d = l.length → Ev (fun k => slices_Index_string_string.l0 k (l.map B) (B p) (l.length : Int) (i : Int)) (-1) := by
  intro d
  induction d with
  | zero => intro i h1; exact Ev.step (fun k => slices_Index_string_string.l0.eq_2 ..) (Ev.ifF (by omega) (Ev.now _))
  | succ d ih =>
   intro i h1
   have hi : i < l.length := by omega
   refine Ev.step (fun k => slices_Index_string_string.l0.eq_2 ..) (Ev.ifT (by omega) (Ev.ifT (by omega) (Ev.ifT (by rw [List.length_map]; omega) ?_)))
   rw [rdB l i hi, toList_B, toList_B, wrap64_succ i (by omega)]
   refine Ev.ifF (fun e => h ?_) (ih (i + 1) (by omega))
   rw [e]
   exact getD_mem hi
 unfold slices_Index_string_string.f
 rw [List.length_map]
 exact loop l.length 0 (by omega)
end Go.Proofs.YtpgobnhklnglhaaGreatDoor.L
namespace Go.Proofs.YtpgobnhklnglhaaGreatDoor.Pure
open Go.RowKit Go.Proofs.YtpgobnhklnglhaaGreatDoor.P Go.Proofs.YtpgobnhklnglhaaGreatDoor.M Go.Proofs.YtpgobnhklnglhaaGreatDoorW.PrintWords Go.Proofs.YtpgobnhklnglhaaGreatDoorW.PrintLast Go.Proofs.YtpgobnhklnglhaaGreatDoorW.PrintMore
set_option linter.unusedVariables false
open Go.Proofs.YtpgobnhklnglhaaGreatDoor.L
namespace MeanUnique
def uqL (ws : List Txt) (w : Txt) : Nat → Nat → Txt
 | 0, _ => w
 | d + 1, n => if ((ws.filter fun x => hasPre x (w.take n)).length : Int) = 1 then w.take n else uqL ws w d (n + 1)
def uq (ws : List Txt) (w : Txt) : Txt := uqL ws w w.length 0
theorem uqL_le (ws : List Txt) (w : Txt) : ∀ d n, (uqL ws w d n).length ≤ w.length
 | 0, _ => Nat.le_refl _
 | d + 1, n => by
  rw [uqL]
  split
  ·
   rw [List.length_take]; omega
  ·
   exact uqL_le ws w d (n + 1)
theorem spec_uq {ws : List Txt} (h : OkW ws) (w : Txt) (hw : w.length ≤ 12) : ∀ (d n : Nat), n + d = w.length → Ev (fun k => spec_l3Unique.l0 k (ws.map B) (B w) (n : Int)) (B (uqL ws w d n)) := by
 have h40 := h.len
 intro d
 induction d with
 | zero =>
  intro n q
  exact Ev.step (fun k => spec_l3Unique.l0.eq_2 ..) (Ev.ifF (by rw [size_B]; omega) (Ev.now _))
 | succ d ih =>
  intro n q
  have hu := l3Under_ev ws (w.take n) (by omega) h.le
  refine Ev.step (fun k => spec_l3Unique.l0.eq_2 ..) (Ev.ifT (by rw [size_B]; omega) (Ev.ifT (by omega) (Ev.ifT (by rw [size_B]; omega) ?_)))
  rw [extract_B, List.drop_zero, Int.toNat_natCast, Nat.sub_zero]
  refine Ev.bind hu ?_
  rw [List.length_map, uqL]
  by_cases h1 : ((ws.filter fun x => hasPre x (w.take n)).length : Int) = 1
  ·
   rw [if_pos h1]
   exact Ev.ifT h1 (Ev.now _)
  ·
   rw [if_neg h1]
   refine Ev.ifF h1 ?_
   rw [wrap64_succ n (by omega)]
   exact ih (n + 1) (by omega)
theorem l3Unique_ev {ws : List Txt} (h : OkW ws) (w : Txt) (hw : w.length ≤ 12) : Ev (fun k => spec_l3Unique.f k (ws.map B) (B w)) (B (uq ws w)) := spec_uq h w hw w.length 0 (by omega)
theorem impl_uq {ws : List Txt} (h : OkW ws) (w : Txt) (hw : w.length ≤ 12) : ∀ (d n : Nat), n + d = w.length → Ev (fun k => impl_UniquePrefix.l0 k (B w) (w.length : Int) (n : Int) (trN (preL ws) ws)) (B (uqL ws w d n), true) := by
 have h40 := h.len
 intro d
 induction d with
 | zero =>
  intro n q
  exact Ev.step (fun k => impl_UniquePrefix.l0.eq_2 ..) (Ev.ifF (by omega) (Ev.now _))
 | succ d ih =>
  intro n q
  have hu := under_ev h (w.take n) (by rw [List.length_take]; omega)
  refine Ev.step (fun k => impl_UniquePrefix.l0.eq_2 ..) (Ev.ifT (by omega) (Ev.ifT (by omega) (Ev.ifT (by rw [size_B]; omega) ?_)))
  rw [extract_B, List.drop_zero, Int.toNat_natCast, Nat.sub_zero]
  refine Ev.bind hu ?_
  rw [List.length_map, uqL]
  by_cases h1 : ((ws.filter fun x => hasPre x (w.take n)).length : Int) = 1
  ·
   rw [if_pos h1]
   exact Ev.ifT h1 (Ev.now _)
  ·
   rw [if_neg h1]
   refine Ev.ifF h1 ?_
   rw [wrap64_succ n (by omega)]
   exact ih (n + 1) (by omega)
theorem unique_ev {ws : List Txt} (h : OkW ws) (w : Txt) (hm : w ∈ ws) (ht : Ev (fun k => impl_isTrie.f k (trN (preL ws) ws)) true) : Ev (fun k => impl_UniquePrefix.f k (trN (preL ws) ws) (B w)) (B (uq ws w), true) := by
 have h40 := h.len
 have hw := h.le w hm
 obtain ⟨z1, z2⟩ := placeL_mem hm
 have hi : Ev (fun k => impl_Trie_has.f k (trN (preL ws) ws) (B w)) true := by
  unfold impl_Trie_has.f slices_Contains_string_string.f
  refine Ev.bind (words_ev h) (Ev.bind (Ev.bind (index_ev ws w (by omega) hm) (Ev.now _)) ?_)
  rw [decide_eq_true (by omega)]
  exact Ev.now _
 have hk : Ev (fun k => impl_areKept.f k (trN (preL ws) ws) (B w)) true := by
  unfold impl_areKept.f
  refine Ev.bind ht (Ev.ifT rfl ?_)
  rw [isWord_eq, h.word w hm]
  exact Ev.some_bind (Ev.now _)
 have hl := impl_uq h w hw w.length 0 (by omega)
 unfold impl_UniquePrefix.f
 refine Ev.bind hk (Ev.ifT rfl (Ev.bind hi (Ev.step (fun k => impl_UniquePrefix.j0.eq_2 ..) (Ev.ifF (by simp) ?_))))
 rw [size_B]
 exact hl
def tot (ws vs : List Txt) : Nat := sumL (fun w => (uq ws w).length) vs
theorem sum_ev {ws : List Txt} (h : OkW ws) (ht : Ev (fun k => impl_isTrie.f k (trN (preL ws) ws)) true) : ∀ (vs : List Txt) (s : Nat), (∀ v ∈ vs, v ∈ ws) → s + tot ws vs ≤ 1000000 → Ev (fun k => sumf (impl_MeanUnique.p k (trN (preL ws) ws)) (vs.map B) (s : Int)) ((s + tot ws vs : Nat) : Int)
 | [], s, _, _ => Ev.now _
 | w :: r, s, hv, hs => by
  have e : tot ws (w :: r) = (uq ws w).length + tot ws r := rfl
  rw [e] at hs ⊢
  have ih := sum_ev h ht r (s + (uq ws w).length) (fun v hv2 => hv v (List.mem_cons_of_mem _ hv2)) (by omega)
  have hp : Ev (fun k => impl_MeanUnique.p k (trN (preL ws) ws) (B w)) ((uq ws w).length : Int) := by
   unfold impl_MeanUnique.p
   refine Ev.bind (unique_ev h w (hv w (by simp)) ht) ?_
   rw [size_B]
   exact Ev.now _
  show Ev (fun k => (impl_MeanUnique.p k (trN (preL ws) ws) (B w)).bind fun v => sumf (impl_MeanUnique.p k (trN (preL ws) ws)) (r.map B) (wrap64 ((s : Int) + v))) _
  refine Ev.bind hp ?_
  rw [← Int.natCast_add, wrapN (by omega), ← Nat.add_assoc]
  exact ih
theorem bound {ws : List Txt} (h : OkW ws) : tot ws ws ≤ 480 := by
 have h1 := sumL_le (fun w => (uq ws w).length) 12 ws fun w hw => Nat.le_trans (uqL_le ws w w.length 0) (h.le w hw)
 have := h.len
 unfold tot
 omega
theorem spec_loop {ws : List Txt} (h : OkW ws) (h0 : 0 < ws.length) (S : Nat) (hS : S ≤ 480) : ∀ (d i s : Nat), i + d = ws.length → s + tot ws (ws.drop i) = S →
  Ev (fun k => spec_MeanUnique.l0 k (s : Int) (ws.map B) (i : Int)) ((fr S ws.length).1, (fr S ws.length).2, true) := by
 have h40 := h.len
 intro d
 induction d with
 | zero =>
  intro i s h1 h2
  rw [List.drop_of_length_le (by omega)] at h2
  obtain rfl : s = S := h2
  refine Ev.step (fun k => spec_MeanUnique.l0.eq_2 ..) (Ev.ifF (by rw [List.length_map]; omega) ?_)
  rw [List.length_map]
  exact Ev.bind (a := fr s ws.length) (cut_ev _ _ (by omega) h0 (by omega)) (Ev.now _)
 | succ d ih =>
  intro i s h1 h2
  have hi : i < ws.length := by omega
  rw [drop_cons_getD [] hi] at h2
  have e : tot ws (ws.getD i [] :: ws.drop (i + 1)) = (uq ws (ws.getD i [])).length + tot ws (ws.drop (i + 1)) := rfl
  rw [e] at h2
  refine Ev.step (fun k => spec_MeanUnique.l0.eq_2 ..) (Ev.ifT (by rw [List.length_map]; omega) (Ev.ifT (by omega) ?_))
  rw [rdB ws i hi]
  refine Ev.bind (l3Unique_ev h _ (h.le _ (getD_mem hi))) ?_
  rw [size_B, wrap64_succ i (by omega), ← Int.natCast_add, wrapN (by omega)]
  exact ih (i + 1) _ (by omega) (by omega)
theorem both (N : List Nd) : ∃ r : Int × Int × Bool, Ev (fun k => spec_MeanUnique.f k N) r ∧ Ev (fun k => impl_MeanUnique.f k N) r := by
 unfold spec_MeanUnique.f impl_MeanUnique.f
 rcases drawn_both N with ⟨ws, h, h0, rfl, e1, e2⟩ | ⟨e1, e2⟩
 ·
  have hb := bound h
  have h40 := h.len
  have ht : Ev (fun k => impl_isTrie.f k (trN (preL ws) ws)) true := by
   obtain ⟨b, c, e⟩ := isTrie_ev (trN (preL ws) ws)
   obtain rfl := c.2 ⟨ws, h, rfl⟩
   exact e
  refine ⟨((fr (tot ws ws) ws.length).1, (fr (tot ws ws) ws.length).2, true), Ev.bind e1 (Ev.ifT rfl (Ev.bind (l2Words_ev h) (spec_loop h h0 _ hb ws.length 0 0 (by omega) (by rw [List.drop_zero]; omega)))), Ev.bind e2 (Ev.ifT rfl (Ev.bind (a := fr (tot ws ws) ws.length) ?_ (Ev.now _)))⟩
  unfold impl_MeanUnique.g
  refine Ev.bind (words_ev h) ?_
  have := sum_ev h ht ws 0 (fun v hv => hv) (by omega)
  rw [Nat.zero_add] at this
  refine Ev.bind this ?_
  rw [List.length_map]
  exact frac_ev _ _ (by omega) h0 (by omega)
 ·
  exact ⟨(0, 0, false), Ev.bind e1 (Ev.ifF Bool.false_ne_true (Ev.now _)), Ev.bind e2 (Ev.ifF Bool.false_ne_true (Ev.now _))⟩
end MeanUnique
theorem FnExactMeanUnique : laws_FnExactMeanUnique.Pure := by
 intro l hl
 by_cases hs : l.length ≤ 1048576
 ·
  obtain ⟨r, h1, h2⟩ := MeanUnique.both (toN l)
  refine Ev.rounds ?_
  unfold laws_FnExactMeanUnique.f
  rw [szTrie_eq l hl, if_pos hs]
  refine Ev.some_bind (Ev.ifF (by omega) (Ev.bind (toTrie_ev l hs) (Ev.bind h1 (Ev.bind (toTrie_ev l hs) (Ev.bind h2 ?_)))))
  rw [eqA2_self]
  refine Ev.some_bind (Ev.ifT rfl (Ev.step (fun k => laws_FnExactMeanUnique.j0.eq_2 ..) (Ev.ifF (by simp) (Ev.bind (toTrie_ev l hs) (Ev.bind (eqTrie_ev _ (by rw [toN_length]; omega)) (Ev.ifT rfl (Ev.now _)))))))
 ·
  exact ⟨0, by unfold laws_FnExactMeanUnique.f; rw [szTrie_eq l hl, if_neg hs]; rfl⟩
end Go.Proofs.YtpgobnhklnglhaaGreatDoor.Pure
namespace Go.Proofs.YtpgobnhklnglhaaGreatDoor.fnExactMeanUnique
open Go.ChangeShapes Go.WideShapes Go.ChangeAt Go.RowKit Go.Proofs.YtpgobnhklnglhaaGreatDoor.P
open Go.ChangeMaps (open_string shut_string)
set_option linter.unusedVariables false
def laidL : List (String × DataW Unit) := [("unicode/utf8.acceptRanges", Rows.laid_unicode_utf8_acceptRanges), ("unicode/utf8.first", Rows.laid_unicode_utf8_first)]
theorem own : ownKnob Tryz.prog.godebug = none := by kernel_rfl
theorem laidOut : laidOutB Tryz.prog = true := by kernel_rfl
set_option maxRecDepth 100000 in
theorem lifted (os : Os) (started : os.Started) (H : Type) (enc : TypeId × Value → H) :
    ReturnsInHanded {} Tryz.checked os 4 .any (fun w args => (Rows.fnExactMeanUniqueSpec.pre enc Tryz.prog Tryz.f4 [] false w args ∧ laidMetH Tryz.prog laidL w) ∧ sizedMet enc Tryz.prog Tryz.f4 (OpenSpec.ofChange Rows.fnExactMeanUniqueSpec) false w args) (Rows.fnExactMeanUniqueSpec.post enc Tryz.prog Tryz.f4 false true false false) := by
  refine returnsInHanded_of_change_and (C := Tryz.checked) (X := fun w _ => laidMetH Tryz.prog laidL w) (fun _ _ _ hh h => h.of_heap hh) own started (by kernel_rfl) Tryz.func4
    (ChangeSpec.witness_shaped (enc := enc) (C := Tryz.checked) (os := os) (X := fun w _ => laidMetH Tryz.prog laidL w) false (World.laidAll Tryz.prog os laidL) #[.agg #[.slice none 0 0]] 8 (World.laidAll_os _ _ _) (World.shaped_of_ZipB (by kernel_rfl) (by kernel_rfl)) (by kernel_rfl) (by kernel_rfl) (by kernel_rfl)
      (by rw [MakeChecks.laidMetH_plain _ _ _ (by kernel_rfl)]; exact laidMet_laidAll _ (by kernel_rfl) (by kernel_rfl))) ?_
  intro W base args ds gs before hval0 hW hcnd hsz0 hL_ _
  have hsz : (DataW.weightsEach Tryz.prog (Tryz.f4.params.toList ++ Rows.fnExactMeanUniqueSpec.plain.varTypes Tryz.prog) (ds ++ gs)).all (· ≤ reachBytes) = true := hsz0
  have hval : ∀ (j : Nat) t v, Tryz.f4.params[j]? = some t → args[j]? = some v → Value.okWide Tryz.prog W .any base t v := hval0
  have hW' := hW
  obtain ⟨p, q, hA0, hV, rfl, hfz, hnd⟩ := hW
  have hA : DataW.TrodAll enc Tryz.prog W 0 (fun _ => true) true Tryz.f4.params.toList args.toList ds p := hA0
  rw [Tryz.params4] at hA hval hsz
  obtain ⟨v0, vs0, d0, ds0, p0, q0, hargs, rfl, rfl, h0, r0⟩ := trodAll_cons hA
  obtain ⟨rfl, rfl, rfl⟩ := trodAll_nil r0
  obtain rfl : args = #[v0] := by cases args; simp_all
  obtain ⟨rfl, rfl⟩ := trodVars_none hV
  have k0 := h0
  have lt0 : ∀ x ∈ p0, x.block < W.heap.size := by obtain ⟨m, hm⟩ := k0; exact DataW.trod_lt m _ _ _ hm
  obtain ⟨A0, c0, l0, ev0, hc0, hr0⟩ := OT.trie (hval 0 24 v0 rfl rfl) h0
  subst ev0
  clear hA0 hval0 hsz0 hsz
  refine (laws_FnExactMeanUnique.walk Pure.FnExactMeanUnique W A0 c0 l0 hr0 hc0).mono fun e W' ⟨he, bel⟩ => ?_
  subst he
  exact ⟨_, rfl, _, _, _, [], _, [], hW', trodAll_mk1 (shut_bool Tryz.underlying4 _), (trodAll_cons_mk (Below.trod laidOut (by kernel_rfl) (of_decide_eq_true (by kernel_rfl)) k0 bel lt0) trodAll_mk0), rfl, bel.frame _, fun h => by cases h⟩
theorem over : Rows.fnExactMeanUniqueRow.holds Tryz.pinned (OpenSpec.ofChange Rows.fnExactMeanUniqueSpec) :=
  OpenClaim.holds_of_wide 4 Tryz.f4 rfl rfl rfl rfl rfl rfl rfl ⟨rfl, rfl, rfl, rfl, rfl⟩ rfl rfl rfl rfl rfl (by kernel_rfl) Tryz.func4 (by kernel_rfl)
    (of_decide_eq_true (by kernel_rfl)) (by unfold Func.isWrapper; first | (rw [if_pos (by decide +kernel)]; kernel_rfl) | (rw [if_neg (by decide +kernel)]; exact ⟨rfl, rfl⟩))
    (fun os started H enc _ => lifted os started H enc)
theorem proved : Rows.FnExactMeanUniqueSaid := over
end Go.Proofs.YtpgobnhklnglhaaGreatDoor.fnExactMeanUnique
namespace Go.Proofs.YtpgobnhklnglhaaGreatDoor
theorem fnExactMeanUnique_holds : Rows.FnExactMeanUniqueSaid := fnExactMeanUnique.proved
theorem fnExactMeanUnique_card : Rows.FnExactMeanUniqueCardSaid :=
  Claim7.holds_tied_plain_at .later [] [.data, .pinned] true (true, "18b5349811558f14302ef38075f311b450dddf946eda31796879a43ec673fad8") false
    fnExactMeanUnique_holds (fun _ h => by cases h) (by kernel_rfl) (fun _ h => by cases h) fnExactMeanUnique_row_tie rfl ⟨rfl, rfl⟩ (by kernel_rfl) rfl
    (fun f fn hf hfn => by
      obtain rfl : f = 4 := Option.some.inj ((show Tryz.prog.funcNamed "loop.example/g01243/laws.FnExactMeanUnique" = some 4 by kernel_rfl).symm.trans hf) |>.symm
      obtain rfl : fn = Tryz.f4 := (Option.some.inj (Tryz.func4.symm.trans hfn)).symm
      exact ⟨by kernel_rfl, fun j t ht => by
        rw [Tryz.params4] at ht
        have hm : t ∈ [24] := by simpa using Array.mem_of_getElem? ht
        have hall : ([24].all fun u => !Tryz.prog.wantsStandIn u) = true := by kernel_rfl
        exact (show Tryz.prog.wantsStandIn t = false by simpa using List.all_eq_true.1 hall t hm)⟩)
    (by kernel_rfl)
end Go.Proofs.YtpgobnhklnglhaaGreatDoor
