/-
  Part 5 of the proof that FnExactNeighborPairs returns true for every input: the functions that it reaches, each with its contract, and the law.
  Conditions: those of the given statement, no others.
-/
import Derived.Test.YtpgobnhklnglhaaCFnExactNeighborPairsW0
import Derived.Lib.SlicesCompact
import Derived.Test.YtpgobnhklnglhaaRows
import Derived.WalkKit
import Derived.ProofKit
import Derived.OpenShut
import Derived.ShutString
import Derived.ChangeOld
import Derived.Below
import Derived.SizedLaws
import Derived.Test.YtpgobnhklnglhaaCFnExactNeighborPairs0
import Derived.Test.YtpgobnhklnglhaaCFnExactNeighborPairs3
import Derived.Test.YtpgobnhklnglhaaCFnExactNeighborPairs2
import Derived.Test.YtpgobnhklnglhaaCFnExactNeighborPairs1
set_option linter.unusedVariables false
set_option linter.unusedSimpArgs false
namespace Go.Proofs.Ytpgobnhklnglhaa.P
open Go.RowKit Go.Proofs.YtpgobnhklnglhaaW.PrintWords Go.Proofs.YtpgobnhklnglhaaW.PrintLast Go.Proofs.YtpgobnhklnglhaaW.PrintMore
attribute [local go_sem] max2_int min2_int max_two min_two max_three min_three max_four min_four
set_option linter.unusedVariables false
set_option linter.unusedSimpArgs false
mutual
def laws_FnExactNeighborPairs.j0 : Nat → List (S26) → Bool → List (S26) → Bool → Bool → List (S62) → List (S58) → Option (Bool)
 | 0, _, _, _, _, _, _, _ => none
 | k + 1, x4, x5, x7, x8, x40, x460000, x472000 => if x40 = true then (some false) else ((laws_toTrie.f k x460000).bind fun t477 => ((laws_eqTrie.f k x472000 t477).bind fun t480 => (if t480 = true then ((laws_markTrie.f k x472000 1).bind fun bt481 => (if bt481.1 < 0 then (laws_FnExactNeighborPairs.j1 k x4 x5 x7 true x460000) else ((laws_eqIntA2S.f k x7 x4).bind fun t483 => (if t483 = true then (laws_FnExactNeighborPairs.j1 k x4 x5 x7 (x8 != x5) x460000) else (laws_FnExactNeighborPairs.j1 k x4 x5 x7 true x460000))))) else (some false))))
def laws_FnExactNeighborPairs.j1 : Nat → List (S26) → Bool → List (S26) → Bool → List (S62) → Option (Bool)
 | 0, _, _, _, _, _ => none
 | k + 1, x4, x5, x7, x61, x460000 => if x61 = true then (some false) else ((laws_markIntA2S.f x7 1).bind fun bt484 => ((laws_heldIntA2S.f bt484.2 1).bind fun t486 => (if t486 < 0 then (some false) else (if t486 = bt484.1 then ((laws_toTrie.f k x460000).bind fun t487 => ((impl_NeighborPairs.f k t487).bind fun bt490 => ((laws_eqIntA2S.f k bt490.1 x4).bind fun t494 => (if t494 = true then (laws_FnExactNeighborPairs.j2 k bt484.2 bt484.1 (bt490.2 != x5)) else (laws_FnExactNeighborPairs.j2 k bt484.2 bt484.1 true))))) else (some false)))))
def laws_FnExactNeighborPairs.j2 : Nat → List (S26) → Int → Bool → Option (Bool)
 | 0, _, _, _ => none
 | k + 1, x7, x10, x87 => if x87 = true then (some false) else ((laws_heldIntA2S.f x7 1).bind fun t495 => (if t495 < 0 then (some false) else (if t495 = x10 then (some true) else (some false))))
end
def laws_FnExactNeighborPairs.f (k : Nat) (l0_0 : List (S62)) : Option (Bool) := (laws_szTrie.f l0_0 1048576).bind fun t460 => (if t460 < 0 then (some true) else ((laws_toTrie.f k l0_0).bind fun t461 => ((spec_NeighborPairs.f k t461).bind fun bt464 => ((laws_toTrie.f k l0_0).bind fun t468 => ((impl_NeighborPairs.f k t468).bind fun bt472 => ((laws_eqIntA2S.f k bt472.1 bt464.1).bind fun t476 => (if t476 = true then (laws_FnExactNeighborPairs.j0 k bt464.1 bt464.2 bt472.1 bt472.2 (bt472.2 != bt464.2) l0_0 t468) else (laws_FnExactNeighborPairs.j0 k bt464.1 bt464.2 bt472.1 bt472.2 true l0_0 t468))))))))
theorem laws_FnExactNeighborPairs.mono_l : ∀ k, (∀ y0 y1 y2 y3 y4 y5 y6, LeO (laws_FnExactNeighborPairs.j0 k y0 y1 y2 y3 y4 y5 y6) (laws_FnExactNeighborPairs.j0 (k + 1) y0 y1 y2 y3 y4 y5 y6)) ∧ (∀ y0 y1 y2 y3 y4, LeO (laws_FnExactNeighborPairs.j1 k y0 y1 y2 y3 y4) (laws_FnExactNeighborPairs.j1 (k + 1) y0 y1 y2 y3 y4)) ∧ (∀ y0 y1 y2, LeO (laws_FnExactNeighborPairs.j2 k y0 y1 y2) (laws_FnExactNeighborPairs.j2 (k + 1) y0 y1 y2))
 | 0 => ⟨fun _ _ _ _ _ _ _ r h => by simp [laws_FnExactNeighborPairs.j0] at h, fun _ _ _ _ _ r h => by simp [laws_FnExactNeighborPairs.j1] at h, fun _ _ _ r h => by simp [laws_FnExactNeighborPairs.j2] at h⟩
 | k + 1 => by
  obtain ⟨ih0, ih1, ih2⟩ := laws_FnExactNeighborPairs.mono_l k
  refine ⟨?_, ?_, ?_⟩
  ·
   intro y0 y1 y2 y3 y4 y5 y6
   unfold laws_FnExactNeighborPairs.j0
   repeat' first
   | (with_reducible exact ih0 _ _ _ _ _ _ _)
   | (with_reducible exact ih1 _ _ _ _ _)
   | (with_reducible exact ih2 _ _ _)
   | (with_reducible exact impl_NeighborPairs.mono _ _)
   | (with_reducible exact laws_eqIntA2S.mono _ _ _)
   | (with_reducible exact laws_eqTrie.mono _ _ _)
   | (with_reducible exact laws_markTrie.mono _ _ _)
   | (with_reducible exact laws_toTrie.mono _ _)
   | (with_reducible exact spec_NeighborPairs.mono _ _)
   | (with_reducible exact LeO.refl _)
   | (with_reducible exact LeO.none _)
   | (with_reducible refine LeO.ite ?_ ?_)
   | (with_reducible refine LeO.bind ?_ (fun _ => ?_))
   | exact ih0 _ _ _ _ _ _ _
   | exact ih1 _ _ _ _ _
   | exact ih2 _ _ _
   | exact impl_NeighborPairs.mono _ _
   | exact laws_eqIntA2S.mono _ _ _
   | exact laws_eqTrie.mono _ _ _
   | exact laws_markTrie.mono _ _ _
   | exact laws_toTrie.mono _ _
   | exact spec_NeighborPairs.mono _ _
   | exact LeO.none _
   | refine LeO.ite ?_ ?_
   | refine LeO.bind ?_ (fun _ => ?_)
  ·
   intro y0 y1 y2 y3 y4
   unfold laws_FnExactNeighborPairs.j1
   repeat' first
   | (with_reducible exact ih0 _ _ _ _ _ _ _)
   | (with_reducible exact ih1 _ _ _ _ _)
   | (with_reducible exact ih2 _ _ _)
   | (with_reducible exact impl_NeighborPairs.mono _ _)
   | (with_reducible exact laws_eqIntA2S.mono _ _ _)
   | (with_reducible exact laws_eqTrie.mono _ _ _)
   | (with_reducible exact laws_markTrie.mono _ _ _)
   | (with_reducible exact laws_toTrie.mono _ _)
   | (with_reducible exact spec_NeighborPairs.mono _ _)
   | (with_reducible exact LeO.refl _)
   | (with_reducible exact LeO.none _)
   | (with_reducible refine LeO.ite ?_ ?_)
   | (with_reducible refine LeO.bind ?_ (fun _ => ?_))
   | exact ih0 _ _ _ _ _ _ _
   | exact ih1 _ _ _ _ _
   | exact ih2 _ _ _
   | exact impl_NeighborPairs.mono _ _
   | exact laws_eqIntA2S.mono _ _ _
   | exact laws_eqTrie.mono _ _ _
   | exact laws_markTrie.mono _ _ _
   | exact laws_toTrie.mono _ _
   | exact spec_NeighborPairs.mono _ _
   | exact LeO.none _
   | refine LeO.ite ?_ ?_
   | refine LeO.bind ?_ (fun _ => ?_)
  ·
   intro y0 y1 y2
   unfold laws_FnExactNeighborPairs.j2
   repeat' first
   | (with_reducible exact ih0 _ _ _ _ _ _ _)
   | (with_reducible exact ih1 _ _ _ _ _)
   | (with_reducible exact ih2 _ _ _)
   | (with_reducible exact impl_NeighborPairs.mono _ _)
   | (with_reducible exact laws_eqIntA2S.mono _ _ _)
   | (with_reducible exact laws_eqTrie.mono _ _ _)
   | (with_reducible exact laws_markTrie.mono _ _ _)
   | (with_reducible exact laws_toTrie.mono _ _)
   | (with_reducible exact spec_NeighborPairs.mono _ _)
   | (with_reducible exact LeO.refl _)
   | (with_reducible exact LeO.none _)
   | (with_reducible refine LeO.ite ?_ ?_)
   | (with_reducible refine LeO.bind ?_ (fun _ => ?_))
   | exact ih0 _ _ _ _ _ _ _
   | exact ih1 _ _ _ _ _
   | exact ih2 _ _ _
   | exact impl_NeighborPairs.mono _ _
   | exact laws_eqIntA2S.mono _ _ _
   | exact laws_eqTrie.mono _ _ _
   | exact laws_markTrie.mono _ _ _
   | exact laws_toTrie.mono _ _
   | exact spec_NeighborPairs.mono _ _
   | exact LeO.none _
   | refine LeO.ite ?_ ?_
   | refine LeO.bind ?_ (fun _ => ?_)
theorem laws_FnExactNeighborPairs.mono : ∀ a0 k, LeO (laws_FnExactNeighborPairs.f k a0) (laws_FnExactNeighborPairs.f (k + 1) a0) := by
 intro a0 k
 obtain ⟨ih0, ih1, ih2⟩ := laws_FnExactNeighborPairs.mono_l k
 unfold laws_FnExactNeighborPairs.f
 repeat' first
   | (with_reducible exact ih0 _ _ _ _ _ _ _)
   | (with_reducible exact ih1 _ _ _ _ _)
   | (with_reducible exact ih2 _ _ _)
   | (with_reducible exact impl_NeighborPairs.mono _ _)
   | (with_reducible exact laws_eqIntA2S.mono _ _ _)
   | (with_reducible exact laws_eqTrie.mono _ _ _)
   | (with_reducible exact laws_markTrie.mono _ _ _)
   | (with_reducible exact laws_toTrie.mono _ _)
   | (with_reducible exact spec_NeighborPairs.mono _ _)
   | (with_reducible exact LeO.refl _)
   | (with_reducible exact LeO.none _)
   | (with_reducible refine LeO.ite ?_ ?_)
   | (with_reducible refine LeO.bind ?_ (fun _ => ?_))
   | exact ih0 _ _ _ _ _ _ _
   | exact ih1 _ _ _ _ _
   | exact ih2 _ _ _
   | exact impl_NeighborPairs.mono _ _
   | exact laws_eqIntA2S.mono _ _ _
   | exact laws_eqTrie.mono _ _ _
   | exact laws_markTrie.mono _ _ _
   | exact laws_toTrie.mono _ _
   | exact spec_NeighborPairs.mono _ _
   | exact LeO.none _
   | refine LeO.ite ?_ ?_
   | refine LeO.bind ?_ (fun _ => ?_)
set_option maxHeartbeats 8000000 in
set_option maxRecDepth 100000 in
theorem laws_FnExactNeighborPairs.calls (k : Nat) (A0_0 : Option Addr) (c0_0 : Nat) (l0_0 : List (S62)) (r : Bool) (w : World) (hr0_0 : Kd.C k62 w A0_0 l0_0.length l0_0) (hc0_0 : l0_0.length ≤ c0_0) (h : laws_FnExactNeighborPairs.f k l0_0 = some r) :
  Calls Try.prog 4 #[.agg #[.slice A0_0 l0_0.length c0_0]] w fun e w' => e = .returned (.bool r) ∧ Below w.heap.size w w' := by
 have hu24 := Try.underlying24
 have hu31 := Try.underlying31
 have HR0_0 := Aside0.mk hr0_0
 have HC0_0 := Aside0.mk hc0_0
 clear hr0_0 hc0_0
 have HB := Aside0.mk (Below.refl w.heap.size w)
 have H : ((laws_szTrie.f l0_0 1048576).bind fun t460 => (if t460 < 0 then (some true) else ((laws_toTrie.f k l0_0).bind fun t461 => ((spec_NeighborPairs.f k t461).bind fun bt464 => ((laws_toTrie.f k l0_0).bind fun t468 => ((impl_NeighborPairs.f k t468).bind fun bt472 => ((laws_eqIntA2S.f k bt472.1 bt464.1).bind fun t476 => (if t476 = true then (laws_FnExactNeighborPairs.j0 k bt464.1 bt464.2 bt472.1 bt472.2 (bt472.2 != bt464.2) l0_0 t468) else (laws_FnExactNeighborPairs.j0 k bt464.1 bt464.2 bt472.1 bt472.2 true l0_0 t468))))))))) = some r := h
 clear h
 replace H := Option.bind_eq_some_iff.mp H
 obtain ⟨t460, A20, H⟩ := H
 replace H : (if t460 < 0 then (some true) else ((laws_toTrie.f k l0_0).bind fun t461 => ((spec_NeighborPairs.f k t461).bind fun bt464 => ((laws_toTrie.f k l0_0).bind fun t468 => ((impl_NeighborPairs.f k t468).bind fun bt472 => ((laws_eqIntA2S.f k bt472.1 bt464.1).bind fun t476 => (if t476 = true then (laws_FnExactNeighborPairs.j0 k bt464.1 bt464.2 bt472.1 bt472.2 (bt472.2 != bt464.2) l0_0 t468) else (laws_FnExactNeighborPairs.j0 k bt464.1 bt464.2 bt472.1 bt472.2 true l0_0 t468)))))))) = some r := H
 have A2 := Aside0.mk A20
 clear A20
 by_cases c3 : t460 < 0
 ·
  rw [if_pos c3] at H
  have c3b0 : decide (t460 < 0) = true := decide_eq_true c3
  clear c3
  obtain rfl := Option.some.inj H
  go_enter Try.func4, Try.ntmps4
  go_wp2_with (first | ((with_reducible refine gate_dst (N := 1) rfl ?_); refine box_event ?hg (N := 1) ?hd (cs := #[.slice A0_0 l0_0.length c0_0]) (t := 24) ?hr ?_; (case hd => rfl); (case hg => rfl); (case hr => first | (go_simp; done) | (go_simp; rfl)); intro gb459 hg w4 hbox hb; have n0_ := Aside0.mk (below_step (by repeat (first | (with_reducible first | exact HB.out | apply below_alloc | apply pw_below_drewN | apply below_drew1) | exact HB.out)) hb); have n1_ := Aside0.mk (hbox); have n2_ := Aside0.mk ((by rw [hg]; exact (below_size (by repeat (first | (with_reducible first | exact HB.out | apply below_alloc | apply pw_below_drewN | apply below_drew1) | exact HB.out))) : w.heap.size ≤ gb459)); have n3_ := Aside0.mk ((by rw [hg]; exact (below_size (by repeat (first | (with_reducible first | exact HB.out | apply below_alloc | apply pw_below_drewN | apply below_drew1) | exact HB.out))) : w.heap.size ≤ gb459)); clear HB; have HB := n0_; have BK459 := n1_; have GW459 := n2_; have GE459 := n3_; clear n0_ n1_ n2_ n3_; clear hb hbox hg; have hcz5_0 : w4.cell? ⟨gb459, 0, none⟩ = some (.slice A0_0 l0_0.length c0_0) := (blk_cell BK459.out 0).trans rfl; have hfz5_0 := blk_frozen BK459.out 0) | ((with_reducible refine gate_callee (f := 5) rfl ?_); refine goesL_ (some 16) rfl rfl Try.func5 (by kernel_rfl) rfl #[.agg #[.slice A0_0 l0_0.length c0_0], .int .i64 1048576] rfl (by (try simp only [List.map_toArray, List.map_cons, List.map_nil]); first | done | rfl | (simp only [List.length_drop, List.length_take]; rfl)) ?_; (with_reducible refine (laws_szTrie.calls _ _ l0_0 1048576 t460 _ ?side1 ?side2 A2.out).mono ?_); (case side1 => repeat (first | exact (Kd.C_below HR0_0.out HB.out) | (with_reducible refine Kd.C_alloc ?_ _) | (with_reducible refine Kd.C_drewN ?_ _) | (with_reducible refine Kd.C_drew ?_))); (case side2 => exact HC0_0.out); rintro e w6 ⟨rfl, hb⟩; refine ⟨_, rfl, ?_⟩; have n0_ := Aside0.mk (blk_below (g := gb459) (o := .cells #[.slice A0_0 l0_0.length c0_0] 24 (0, 0)) (by (with_reducible repeat (first | refine blk_drewN ?_ _ | refine blk_drew ?_ | refine blk_alloc ?_ _)); exact BK459.out) hb); have n1_ := Aside0.mk (below_step (by repeat (first | (with_reducible first | exact HB.out | apply below_alloc | apply pw_below_drewN | apply below_drew1 | refine below_set ?_ GE459.out) | exact HB.out)) hb); clear BK459; clear HB; have BK459 := n0_; have HB := n1_; clear n0_ n1_; (try clear hb); (try clear hb2); (try clear hk); (try clear hi)))
  go_ret
  exact ⟨by first | rfl | (simp [errW_none, errW_some] <;> rfl) | (simp [*, errW_none, errW_some] <;> rfl), by repeat (first | (with_reducible first | exact HB.out | apply below_alloc | apply pw_below_drewN | apply below_drew1 | refine below_set ?_ GE459.out) | exact HB.out)⟩
 ·
  rw [if_neg c3] at H
  have c3b0 : decide (t460 < 0) = false := decide_eq_false c3
  clear c3
  replace H := Option.bind_eq_some_iff.mp H
  obtain ⟨t461, A70, H⟩ := H
  replace H : ((spec_NeighborPairs.f k t461).bind fun bt464 => ((laws_toTrie.f k l0_0).bind fun t468 => ((impl_NeighborPairs.f k t468).bind fun bt472 => ((laws_eqIntA2S.f k bt472.1 bt464.1).bind fun t476 => (if t476 = true then (laws_FnExactNeighborPairs.j0 k bt464.1 bt464.2 bt472.1 bt472.2 (bt472.2 != bt464.2) l0_0 t468) else (laws_FnExactNeighborPairs.j0 k bt464.1 bt464.2 bt472.1 bt472.2 true l0_0 t468)))))) = some r := H
  have A7 := Aside0.mk A70
  clear A70
  replace H := Option.bind_eq_some_iff.mp H
  obtain ⟨⟨t464, t467⟩, A80, H⟩ := H
  replace H : ((laws_toTrie.f k l0_0).bind fun t468 => ((impl_NeighborPairs.f k t468).bind fun bt472 => ((laws_eqIntA2S.f k bt472.1 t464).bind fun t476 => (if t476 = true then (laws_FnExactNeighborPairs.j0 k t464 t467 bt472.1 bt472.2 (bt472.2 != t467) l0_0 t468) else (laws_FnExactNeighborPairs.j0 k t464 t467 bt472.1 bt472.2 true l0_0 t468))))) = some r := H
  have A8 := Aside0.mk A80
  clear A80
  replace H := Option.bind_eq_some_iff.mp H
  obtain ⟨t468, A90, H⟩ := H
  replace H : ((impl_NeighborPairs.f k t468).bind fun bt472 => ((laws_eqIntA2S.f k bt472.1 t464).bind fun t476 => (if t476 = true then (laws_FnExactNeighborPairs.j0 k t464 t467 bt472.1 bt472.2 (bt472.2 != t467) l0_0 t468) else (laws_FnExactNeighborPairs.j0 k t464 t467 bt472.1 bt472.2 true l0_0 t468)))) = some r := H
  have A9 := Aside0.mk A90
  clear A90
  replace H := Option.bind_eq_some_iff.mp H
  obtain ⟨⟨t472, t475⟩, A100, H⟩ := H
  replace H : ((laws_eqIntA2S.f k t472 t464).bind fun t476 => (if t476 = true then (laws_FnExactNeighborPairs.j0 k t464 t467 t472 t475 (t475 != t467) l0_0 t468) else (laws_FnExactNeighborPairs.j0 k t464 t467 t472 t475 true l0_0 t468))) = some r := H
  have A10 := Aside0.mk A100
  clear A100
  have HC11 := Aside0.mk H
  clear H
  go_enter Try.func4, Try.ntmps4
  go_upto_region 8 with (first | ((with_reducible refine gate_dst (N := 1) rfl ?_); refine box_event ?hg (N := 1) ?hd (cs := #[.slice A0_0 l0_0.length c0_0]) (t := 24) ?hr ?_; (case hd => rfl); (case hg => rfl); (case hr => first | (go_simp; done) | (go_simp; rfl)); intro gb459 hg w12 hbox hb; have n0_ := Aside0.mk (below_step (by repeat (first | (with_reducible first | exact HB.out | apply below_alloc | apply pw_below_drewN | apply below_drew1) | exact HB.out)) hb); have n1_ := Aside0.mk (hbox); have n2_ := Aside0.mk ((by rw [hg]; exact (below_size (by repeat (first | (with_reducible first | exact HB.out | apply below_alloc | apply pw_below_drewN | apply below_drew1) | exact HB.out))) : w.heap.size ≤ gb459)); have n3_ := Aside0.mk ((by rw [hg]; exact (below_size (by repeat (first | (with_reducible first | exact HB.out | apply below_alloc | apply pw_below_drewN | apply below_drew1) | exact HB.out))) : w.heap.size ≤ gb459)); clear HB; have HB := n0_; have BK459 := n1_; have GW459 := n2_; have GE459 := n3_; clear n0_ n1_ n2_ n3_; clear hb hbox hg; have hcz13_0 : w12.cell? ⟨gb459, 0, none⟩ = some (.slice A0_0 l0_0.length c0_0) := (blk_cell BK459.out 0).trans rfl; have hfz13_0 := blk_frozen BK459.out 0) | ((with_reducible refine gate_callee (f := 5) rfl ?_); refine goesL_ (some 16) rfl rfl Try.func5 (by kernel_rfl) rfl #[.agg #[.slice A0_0 l0_0.length c0_0], .int .i64 1048576] rfl (by (try simp only [List.map_toArray, List.map_cons, List.map_nil]); first | done | rfl | (simp only [List.length_drop, List.length_take]; rfl)) ?_; (with_reducible refine (laws_szTrie.calls _ _ l0_0 1048576 t460 _ ?side1 ?side2 A2.out).mono ?_); (case side1 => repeat (first | exact (Kd.C_below HR0_0.out HB.out) | (with_reducible refine Kd.C_alloc ?_ _) | (with_reducible refine Kd.C_drewN ?_ _) | (with_reducible refine Kd.C_drew ?_))); (case side2 => exact HC0_0.out); rintro e w14 ⟨rfl, hb⟩; refine ⟨_, rfl, ?_⟩; have n0_ := Aside0.mk (blk_below (g := gb459) (o := .cells #[.slice A0_0 l0_0.length c0_0] 24 (0, 0)) (by (with_reducible repeat (first | refine blk_drewN ?_ _ | refine blk_drew ?_ | refine blk_alloc ?_ _)); exact BK459.out) hb); have n1_ := Aside0.mk (below_step (by repeat (first | (with_reducible first | exact HB.out | apply below_alloc | apply pw_below_drewN | apply below_drew1 | refine below_set ?_ GE459.out) | exact HB.out)) hb); clear BK459; clear HB; have BK459 := n0_; have HB := n1_; clear n0_ n1_; (try clear hb); (try clear hb2); (try clear hk); (try clear hi); have hcz15_0 : w14.cell? ⟨gb459, 0, none⟩ = some (.slice A0_0 l0_0.length c0_0) := (blk_cell BK459.out 0).trans rfl; have hfz15_0 := blk_frozen BK459.out 0) | ((with_reducible refine gate_callee (f := 7) rfl ?_); refine goesL_ (some 21) rfl rfl Try.func7 (by kernel_rfl) rfl #[.agg #[.slice A0_0 l0_0.length c0_0]] rfl (by (try simp only [List.map_toArray, List.map_cons, List.map_nil]); first | done | rfl | (simp only [List.length_drop, List.length_take]; rfl)) ?_; (with_reducible refine (laws_toTrie.calls k _ _ l0_0 t461 _ ?side1 ?side2 A7.out).mono ?_); (case side1 => repeat (first | exact (Kd.C_below HR0_0.out HB.out) | (with_reducible refine Kd.C_alloc ?_ _) | (with_reducible refine Kd.C_drewN ?_ _) | (with_reducible refine Kd.C_drew ?_))); (case side2 => exact HC0_0.out); rintro e w16 ⟨v462, rfl, ho0, hb⟩; refine ⟨_, rfl, ?_⟩; have n0_ := Aside0.mk (Kd.R_lower ho0 (below_size (by repeat (first | (with_reducible first | exact HB.out | apply below_alloc | apply pw_below_drewN | apply below_drew1 | refine below_set ?_ GE459.out) | exact HB.out)))); have n1_ := Aside0.mk (blk_below (g := gb459) (o := .cells #[.slice A0_0 l0_0.length c0_0] 24 (0, 0)) (by (with_reducible repeat (first | refine blk_drewN ?_ _ | refine blk_drew ?_ | refine blk_alloc ?_ _)); exact BK459.out) hb); have n2_ := Aside0.mk (below_step (by repeat (first | (with_reducible first | exact HB.out | apply below_alloc | apply pw_below_drewN | apply below_drew1 | refine below_set ?_ GE459.out) | exact HB.out)) hb); clear BK459; clear HB; have HO463 := n0_; have BK459 := n1_; have HB := n2_; clear n0_ n1_ n2_; (try clear hb); (try clear hb2); (try clear hk); (try clear hi); (try clear ho0); obtain ⟨Ao17, co17, eo17⟩ := Kd.R_slice HO463.out; subst eo17) | ((with_reducible refine gate_callee (f := 11) rfl ?_); refine goesL_ (some 22) rfl rfl Try.func11 (by kernel_rfl) rfl #[.agg #[.slice Ao17 t461.length co17]] rfl (by (try simp only [List.map_toArray, List.map_cons, List.map_nil]); first | done | rfl | (simp only [List.length_drop, List.length_take]; rfl)) ?_; (with_reducible refine (spec_NeighborPairs.calls k _ _ t461 t464 t467 _ ?side1 ?side2 A8.out).mono ?_); (case side1 => repeat (first | exact (Kd.R_reads' HO463.out).2.2 | (with_reducible refine Kd.C_alloc ?_ _) | (with_reducible refine Kd.C_drewN ?_ _) | (with_reducible refine Kd.C_drew ?_))); (case side2 => exact (Kd.R_reads' HO463.out).2.1); rintro e w18 ⟨v465, rfl, ho0, hb⟩; refine ⟨_, rfl, ?_⟩; have n0_ := Aside0.mk (Kd.R_below (by (with_reducible repeat (first | apply Kd.R_alloc | apply Kd.R_drewN | apply Kd.R_drew)); exact HO463.out) hb); have n1_ := Aside0.mk (Kd.R_lower ho0 (below_size (by repeat (first | (with_reducible first | exact HB.out | apply below_alloc | apply pw_below_drewN | apply below_drew1 | refine below_set ?_ GE459.out) | exact HB.out)))); have n2_ := Aside0.mk (blk_below (g := gb459) (o := .cells #[.slice A0_0 l0_0.length c0_0] 24 (0, 0)) (by (with_reducible repeat (first | refine blk_drewN ?_ _ | refine blk_drew ?_ | refine blk_alloc ?_ _)); exact BK459.out) hb); have n3_ := Aside0.mk (below_step (by repeat (first | (with_reducible first | exact HB.out | apply below_alloc | apply pw_below_drewN | apply below_drew1 | refine below_set ?_ GE459.out) | exact HB.out)) hb); clear HO463; clear BK459; clear HB; have HO463 := n0_; have HO466 := n1_; have BK459 := n2_; have HB := n3_; clear n0_ n1_ n2_ n3_; (try clear hb); (try clear hb2); (try clear hk); (try clear hi); (try clear ho0); have hcz19_0 : w18.cell? ⟨gb459, 0, none⟩ = some (.slice A0_0 l0_0.length c0_0) := (blk_cell BK459.out 0).trans rfl; have hfz19_0 := blk_frozen BK459.out 0) | ((with_reducible refine gate_callee (f := 7) rfl ?_); refine goesL_ (some 26) rfl rfl Try.func7 (by kernel_rfl) rfl #[.agg #[.slice A0_0 l0_0.length c0_0]] rfl (by (try simp only [List.map_toArray, List.map_cons, List.map_nil]); first | done | rfl | (simp only [List.length_drop, List.length_take]; rfl)) ?_; (with_reducible refine (laws_toTrie.calls k _ _ l0_0 t468 _ ?side1 ?side2 A9.out).mono ?_); (case side1 => repeat (first | exact (Kd.C_below HR0_0.out HB.out) | (with_reducible refine Kd.C_alloc ?_ _) | (with_reducible refine Kd.C_drewN ?_ _) | (with_reducible refine Kd.C_drew ?_))); (case side2 => exact HC0_0.out); rintro e w20 ⟨v469, rfl, ho0, hb⟩; refine ⟨_, rfl, ?_⟩; have n0_ := Aside0.mk (Kd.R_elder' (by (with_reducible repeat (first | apply Kd.R_alloc | apply Kd.R_drewN | apply Kd.R_drew)); exact HO463.out) (Kd.R_base ho0) hb); have n1_ := Aside0.mk (Kd.R_below (by (with_reducible repeat (first | apply Kd.R_alloc | apply Kd.R_drewN | apply Kd.R_drew)); exact HO466.out) hb); have n2_ := Aside0.mk (Kd.R_lower (Kd.R_new' ho0 (Kd.R_lt (by (with_reducible repeat (first | apply Kd.R_alloc | apply Kd.R_drewN | apply Kd.R_drew)); exact HO463.out))) (below_size (by repeat (first | (with_reducible first | exact HB.out | apply below_alloc | apply pw_below_drewN | apply below_drew1 | refine below_set ?_ GE459.out) | exact HB.out)))); have n3_ := Aside0.mk (blk_below (g := gb459) (o := .cells #[.slice A0_0 l0_0.length c0_0] 24 (0, 0)) (by (with_reducible repeat (first | refine blk_drewN ?_ _ | refine blk_drew ?_ | refine blk_alloc ?_ _)); exact BK459.out) hb); have n4_ := Aside0.mk (below_step (by repeat (first | (with_reducible first | exact HB.out | apply below_alloc | apply pw_below_drewN | apply below_drew1 | refine below_set ?_ GE459.out) | exact HB.out)) hb); clear HO463; clear HO466; clear BK459; clear HB; have HO463 := n0_; have HO466 := n1_; have HO470 := n2_; have BK459 := n3_; have HB := n4_; clear n0_ n1_ n2_ n3_ n4_; (try clear hb); (try clear hb2); (try clear hk); (try clear hi); (try clear ho0)) | ((with_reducible refine gate_dst (N := 6) rfl ?_); refine box_event ?hg (N := 6) ?hd (cs := #[.slice none 0 0]) (t := 31) ?hr ?_; (case hd => rfl); (case hg => rfl); (case hr => first | (go_simp; done) | (go_simp; rfl)); intro gb471 hg w21 hbox hb; have n0_ := Aside0.mk (Kd.R_below (by (with_reducible repeat (first | apply Kd.R_alloc | apply Kd.R_drewN | apply Kd.R_drew)); exact HO463.out) hb); have n1_ := Aside0.mk (Kd.R_below (by (with_reducible repeat (first | apply Kd.R_alloc | apply Kd.R_drewN | apply Kd.R_drew)); exact HO466.out) hb); have n2_ := Aside0.mk (Kd.R_below (by (with_reducible repeat (first | apply Kd.R_alloc | apply Kd.R_drewN | apply Kd.R_drew)); exact HO470.out) hb); have n3_ := Aside0.mk (blk_below (g := gb459) (o := .cells #[.slice A0_0 l0_0.length c0_0] 24 (0, 0)) (by (with_reducible repeat (first | refine blk_drewN ?_ _ | refine blk_drew ?_ | refine blk_alloc ?_ _)); exact BK459.out) hb); have n4_ := Aside0.mk (below_step (by repeat (first | (with_reducible first | exact HB.out | apply below_alloc | apply pw_below_drewN | apply below_drew1 | refine below_set ?_ GE459.out) | exact HB.out)) hb); have n5_ := Aside0.mk (hbox); have n6_ := Aside0.mk ((by rw [hg]; exact (below_size (by repeat (first | (with_reducible first | exact HB.out | apply below_alloc | apply pw_below_drewN | apply below_drew1 | refine below_set ?_ GE459.out) | exact HB.out))) : w.heap.size ≤ gb471)); have n7_ := Aside0.mk ((by rw [hg]; exact (below_size (by repeat (first | (with_reducible first | exact HB.out | apply below_alloc | apply pw_below_drewN | apply below_drew1 | refine below_set ?_ GE459.out) | exact HB.out))) : w.heap.size ≤ gb471)); have n8_ := Aside0.mk ((by rw [hg]; exact Nat.ne_of_lt (blk_lt (g := gb459) (o := .cells #[.slice A0_0 l0_0.length c0_0] 24 (0, 0)) (by (with_reducible repeat (first | refine blk_drewN ?_ _ | refine blk_drew ?_ | refine blk_alloc ?_ _)); exact BK459.out)) : gb459 ≠ gb471)); have n9_ := Aside0.mk ((by rw [hg]; exact Nat.ne_of_gt (blk_lt (g := gb459) (o := .cells #[.slice A0_0 l0_0.length c0_0] 24 (0, 0)) (by (with_reducible repeat (first | refine blk_drewN ?_ _ | refine blk_drew ?_ | refine blk_alloc ?_ _)); exact BK459.out)) : gb471 ≠ gb459)); clear HO463; clear HO466; clear HO470; clear BK459; clear HB; have HO463 := n0_; have HO466 := n1_; have HO470 := n2_; have BK459 := n3_; have HB := n4_; have BK471 := n5_; have GW471 := n6_; have GE471 := n7_; have NB459_471 := n8_; have NB471_459 := n9_; clear n0_ n1_ n2_ n3_ n4_ n5_ n6_ n7_ n8_ n9_; clear hb hbox hg; obtain ⟨Ao22, co22, eo22⟩ := Kd.R_slice HO470.out; subst eo22; have hnb23 := NB471_459.out; have hnc23 := NB459_471.out; have hcz24_0 : w21.cell? ⟨gb471, 0, none⟩ = some (.slice none 0 0) := (blk_cell BK471.out 0).trans rfl; have hfz24_0 := blk_frozen BK471.out 0) | ((with_reducible refine gate_callee (f := 12) rfl ?_); refine goesL_ (some 29) rfl rfl Try.func12 (by kernel_rfl) rfl #[.agg #[.slice Ao22 t468.length co22]] rfl (by (try simp only [List.map_toArray, List.map_cons, List.map_nil]); first | done | rfl | (simp only [List.length_drop, List.length_take]; rfl)) ?_; (with_reducible refine (impl_NeighborPairs.calls k _ _ t468 t472 t475 _ ?side1 ?side2 A10.out).mono ?_); (case side1 => refine (Kd.R_reads' (e := 58) (base := w.heap.size) (ok := fun k_ => (True ∧ some k_ ≠ (.slice Ao17 t461.length co17 : Value).ownBlock)) (n := t468.length) (c := co22) ?_).2.2; exact (by (with_reducible repeat (first | apply Kd.R_alloc | apply Kd.R_drewN | apply Kd.R_drew)); exact (Kd.R_mono (Kd.R_far (p := ⟨gb471, 0, none⟩) (Kd.R_types HO470.out BK471.out (by decide)) (fun _ hk => hk.2) (.slice Ao22 t468.length co22)) (fun _ h_ => h_.1)))); (case side2 => exact (Kd.R_reads' HO470.out).2.1); rintro e w25 ⟨v473, rfl, ho0, hb⟩; refine ⟨_, rfl, ?_⟩; have n0_ := Aside0.mk (Kd.R_below (by (with_reducible repeat (first | apply Kd.R_alloc | apply Kd.R_drewN | apply Kd.R_drew)); exact (Kd.R_mono (Kd.R_far (p := ⟨gb471, 0, none⟩) (Kd.R_types HO463.out BK471.out (by decide)) (fun _ hk => hk.2) (.slice Ao22 t468.length co22)) (fun _ h_ => h_.1))) hb); have n1_ := Aside0.mk (Kd.R_elder' (by (with_reducible repeat (first | apply Kd.R_alloc | apply Kd.R_drewN | apply Kd.R_drew)); exact (Kd.R_mono (Kd.R_far (p := ⟨gb471, 0, none⟩) (Kd.R_types HO466.out BK471.out (by decide)) (fun _ hk => hk.2) (.slice Ao22 t468.length co22)) (fun _ h_ => h_.1))) (Kd.R_base ho0) hb); have n2_ := Aside0.mk (Kd.R_below (by (with_reducible repeat (first | apply Kd.R_alloc | apply Kd.R_drewN | apply Kd.R_drew)); exact (Kd.R_mono (Kd.R_far (p := ⟨gb471, 0, none⟩) (Kd.R_types HO470.out BK471.out (by decide)) (fun _ hk => hk.2) (.slice Ao22 t468.length co22)) (fun _ h_ => h_.1))) hb); have n3_ := Aside0.mk (Kd.R_lower (Kd.R_new' ho0 (Kd.R_lt (by (with_reducible repeat (first | apply Kd.R_alloc | apply Kd.R_drewN | apply Kd.R_drew)); exact (Kd.R_mono (Kd.R_far (p := ⟨gb471, 0, none⟩) (Kd.R_types HO466.out BK471.out (by decide)) (fun _ hk => hk.2) (.slice Ao22 t468.length co22)) (fun _ h_ => h_.1))))) (below_size (by repeat (first | (with_reducible first | exact HB.out | apply below_alloc | apply pw_below_drewN | apply below_drew1 | refine below_set ?_ GE459.out | refine below_set ?_ GE471.out) | exact HB.out)))); have n4_ := Aside0.mk (blk_below (g := gb459) (o := .cells #[.slice A0_0 l0_0.length c0_0] 24 (0, 0)) (by (with_reducible repeat (first | refine blk_drewN ?_ _ | refine blk_drew ?_ | refine blk_alloc ?_ _)); refine blk_far ?_ NB459_471.out _; (with_reducible repeat (first | refine blk_drewN ?_ _ | refine blk_drew ?_ | refine blk_alloc ?_ _)); exact BK459.out) hb); have n5_ := Aside0.mk (blk_below (g := gb471) (o := .cells #[.slice Ao22 t468.length co22] 31 (0, 0)) (by (with_reducible repeat (first | refine blk_drewN ?_ _ | refine blk_drew ?_ | refine blk_alloc ?_ _)); refine blk_put (cs := #[.slice none 0 0]) ?_ 0 _ rfl; (with_reducible repeat (first | refine blk_drewN ?_ _ | refine blk_drew ?_ | refine blk_alloc ?_ _)); exact BK471.out) hb); have n6_ := Aside0.mk (below_step (by repeat (first | (with_reducible first | exact HB.out | apply below_alloc | apply pw_below_drewN | apply below_drew1 | refine below_set ?_ GE459.out | refine below_set ?_ GE471.out) | exact HB.out)) hb); clear HO463; clear HO466; clear HO470; clear BK459; clear BK471; clear HB; have HO463 := n0_; have HO466 := n1_; have HO470 := n2_; have HO474 := n3_; have BK459 := n4_; have BK471 := n5_; have HB := n6_; clear n0_ n1_ n2_ n3_ n4_ n5_ n6_; (try clear hb); (try clear hb2); (try clear hk); (try clear hi); (try clear ho0)))
  (try simp only [Act.put, List.setIfInBounds_toArray, List.set_cons_zero, List.set_cons_succ])
  go_cut [40] (fun v40 wc => ∃ (kq : Nat) (x40_10 : Bool), v40 = .bool x40_10 ∧ Aside0 (laws_FnExactNeighborPairs.j0 kq t464 t467 t472 t475 x40_10 l0_0 t468 = some r) ∧ Aside0 (kq ≤ k) ∧ Aside0 (Kd.R k26 26 wc w.heap.size (fun k_ => some k_ ≠ (v473 : Value).ownBlock) v465 t464) ∧ Aside0 (Kd.R k26 26 wc w.heap.size (fun k_ => some k_ ≠ (v465 : Value).ownBlock) v473 t472) ∧ Aside0 (Kd.R k58 58 wc w.heap.size (fun _ => True) (.slice Ao22 t468.length co22) t468) ∧ Aside0 (wc.heap[gb459]? = some (.cells #[(.slice A0_0 l0_0.length c0_0)] 24 (0, 0))) ∧ Aside0 (wc.heap[gb471]? = some (.cells #[(.slice Ao22 t468.length co22)] 31 (0, 0))) ∧ Aside0 (Below w.heap.size w wc))
  case first =>
   have H := HC11.out
   clear HC11
   replace H := Option.bind_eq_some_iff.mp H
   obtain ⟨t476, A260, H⟩ := H
   replace H : (if t476 = true then (laws_FnExactNeighborPairs.j0 k t464 t467 t472 t475 (t475 != t467) l0_0 t468) else (laws_FnExactNeighborPairs.j0 k t464 t467 t472 t475 true l0_0 t468)) = some r := H
   have A26 := Aside0.mk A260
   clear A260
   by_cases c27 : t476 = true
   ·
    subst c27
    have H1 : (laws_FnExactNeighborPairs.j0 k t464 t467 t472 t475 (t475 != t467) l0_0 t468) = some r := by rw [if_pos rfl] at H; exact H
    clear H
    have H := H1
    clear H1
    have H' := Aside0.mk H
    clear H
    obtain ⟨Ao28, co28, eo28⟩ := Kd.R_slice HO474.out
    subst eo28
    obtain ⟨Ao29, co29, eo29⟩ := Kd.R_slice HO466.out
    subst eo29
    go_wp2_with (first | ((with_reducible refine gate_callee (f := 13) rfl ?_); refine goesL_ (some 34) rfl rfl Try.func13 (by kernel_rfl) rfl #[.slice Ao28 t472.length co28, .slice Ao29 t464.length co29] rfl (by (try simp only [List.map_toArray, List.map_cons, List.map_nil]); first | done | rfl | (simp only [List.length_drop, List.length_take]; rfl)) ?_; (with_reducible refine (laws_eqIntA2S.calls k _ _ t472 _ _ t464 true _ ?side1 ?side2 ?side3 ?side4 A26.out).mono ?_); (case side1 => repeat (first | exact (Kd.R_reads' HO474.out).2.2 | (with_reducible refine Kd.C_alloc ?_ _) | (with_reducible refine Kd.C_drewN ?_ _) | (with_reducible refine Kd.C_drew ?_))); (case side2 => exact (Kd.R_reads' HO474.out).2.1); (case side3 => repeat (first | exact (Kd.R_reads' HO466.out).2.2 | (with_reducible refine Kd.C_alloc ?_ _) | (with_reducible refine Kd.C_drewN ?_ _) | (with_reducible refine Kd.C_drew ?_))); (case side4 => exact (Kd.R_reads' HO466.out).2.1); rintro e w30 ⟨rfl, hb⟩; refine ⟨_, rfl, ?_⟩; have n0_ := Aside0.mk (Kd.R_below (by (with_reducible repeat (first | apply Kd.R_alloc | apply Kd.R_drewN | apply Kd.R_drew)); exact HO463.out) hb); have n1_ := Aside0.mk (Kd.R_below (by (with_reducible repeat (first | apply Kd.R_alloc | apply Kd.R_drewN | apply Kd.R_drew)); exact HO466.out) hb); have n2_ := Aside0.mk (Kd.R_below (by (with_reducible repeat (first | apply Kd.R_alloc | apply Kd.R_drewN | apply Kd.R_drew)); exact HO470.out) hb); have n3_ := Aside0.mk (Kd.R_below (by (with_reducible repeat (first | apply Kd.R_alloc | apply Kd.R_drewN | apply Kd.R_drew)); exact HO474.out) hb); have n4_ := Aside0.mk (blk_below (g := gb459) (o := .cells #[.slice A0_0 l0_0.length c0_0] 24 (0, 0)) (by (with_reducible repeat (first | refine blk_drewN ?_ _ | refine blk_drew ?_ | refine blk_alloc ?_ _)); exact BK459.out) hb); have n5_ := Aside0.mk (blk_below (g := gb471) (o := .cells #[.slice Ao22 t468.length co22] 31 (0, 0)) (by (with_reducible repeat (first | refine blk_drewN ?_ _ | refine blk_drew ?_ | refine blk_alloc ?_ _)); exact BK471.out) hb); have n6_ := Aside0.mk (below_step (by repeat (first | (with_reducible first | exact HB.out | apply below_alloc | apply pw_below_drewN | apply below_drew1 | refine below_set ?_ GE459.out | refine below_set ?_ GE471.out) | exact HB.out)) hb); clear HO463; clear HO466; clear HO470; clear HO474; clear BK459; clear BK471; clear HB; have HO463 := n0_; have HO466 := n1_; have HO470 := n2_; have HO474 := n3_; have BK459 := n4_; have BK471 := n5_; have HB := n6_; clear n0_ n1_ n2_ n3_ n4_ n5_ n6_; (try clear hb); (try clear hb2); (try clear hk); (try clear hi)))
    go_meet
    case rel => exact ⟨_, ((t475 != t467)), (by first | rfl | (simp; done) | (simp [*]; done)), H', ⟨by first | omega | exact Nat.le_refl _⟩, ⟨by (with_reducible repeat (first | apply Kd.R_alloc | apply Kd.R_drewN | apply Kd.R_drew)); exact Kd.R_mono HO466.out (fun _ hk => hk.2)⟩, ⟨by (with_reducible repeat (first | apply Kd.R_alloc | apply Kd.R_drewN | apply Kd.R_drew)); exact Kd.R_mono HO474.out (fun _ hk => hk.2)⟩, ⟨by (with_reducible repeat (first | apply Kd.R_alloc | apply Kd.R_drewN | apply Kd.R_drew)); exact Kd.R_mono HO470.out (fun _ hk => trivial)⟩, ⟨by (with_reducible repeat (first | refine blk_drewN ?_ _ | refine blk_drew ?_ | refine blk_alloc ?_ _)); exact BK459.out⟩, ⟨by (with_reducible repeat (first | refine blk_drewN ?_ _ | refine blk_drew ?_ | refine blk_alloc ?_ _)); exact BK471.out⟩, ⟨by repeat (first | (with_reducible first | exact HB.out | apply below_alloc | apply pw_below_drewN | apply below_drew1 | refine below_set ?_ GE459.out | refine below_set ?_ GE471.out) | exact HB.out)⟩⟩
   ·
    replace c27 := Bool.eq_false_iff.mpr c27
    subst c27
    have H1 : (laws_FnExactNeighborPairs.j0 k t464 t467 t472 t475 true l0_0 t468) = some r := by rw [if_neg (show ¬ (false = true) by decide)] at H; exact H
    clear H
    have H := H1
    clear H1
    have H' := Aside0.mk H
    clear H
    obtain ⟨Ao31, co31, eo31⟩ := Kd.R_slice HO474.out
    subst eo31
    obtain ⟨Ao32, co32, eo32⟩ := Kd.R_slice HO466.out
    subst eo32
    go_wp2_with (first | ((with_reducible refine gate_callee (f := 13) rfl ?_); refine goesL_ (some 34) rfl rfl Try.func13 (by kernel_rfl) rfl #[.slice Ao31 t472.length co31, .slice Ao32 t464.length co32] rfl (by (try simp only [List.map_toArray, List.map_cons, List.map_nil]); first | done | rfl | (simp only [List.length_drop, List.length_take]; rfl)) ?_; (with_reducible refine (laws_eqIntA2S.calls k _ _ t472 _ _ t464 false _ ?side1 ?side2 ?side3 ?side4 A26.out).mono ?_); (case side1 => repeat (first | exact (Kd.R_reads' HO474.out).2.2 | (with_reducible refine Kd.C_alloc ?_ _) | (with_reducible refine Kd.C_drewN ?_ _) | (with_reducible refine Kd.C_drew ?_))); (case side2 => exact (Kd.R_reads' HO474.out).2.1); (case side3 => repeat (first | exact (Kd.R_reads' HO466.out).2.2 | (with_reducible refine Kd.C_alloc ?_ _) | (with_reducible refine Kd.C_drewN ?_ _) | (with_reducible refine Kd.C_drew ?_))); (case side4 => exact (Kd.R_reads' HO466.out).2.1); rintro e w33 ⟨rfl, hb⟩; refine ⟨_, rfl, ?_⟩; have n0_ := Aside0.mk (Kd.R_below (by (with_reducible repeat (first | apply Kd.R_alloc | apply Kd.R_drewN | apply Kd.R_drew)); exact HO463.out) hb); have n1_ := Aside0.mk (Kd.R_below (by (with_reducible repeat (first | apply Kd.R_alloc | apply Kd.R_drewN | apply Kd.R_drew)); exact HO466.out) hb); have n2_ := Aside0.mk (Kd.R_below (by (with_reducible repeat (first | apply Kd.R_alloc | apply Kd.R_drewN | apply Kd.R_drew)); exact HO470.out) hb); have n3_ := Aside0.mk (Kd.R_below (by (with_reducible repeat (first | apply Kd.R_alloc | apply Kd.R_drewN | apply Kd.R_drew)); exact HO474.out) hb); have n4_ := Aside0.mk (blk_below (g := gb459) (o := .cells #[.slice A0_0 l0_0.length c0_0] 24 (0, 0)) (by (with_reducible repeat (first | refine blk_drewN ?_ _ | refine blk_drew ?_ | refine blk_alloc ?_ _)); exact BK459.out) hb); have n5_ := Aside0.mk (blk_below (g := gb471) (o := .cells #[.slice Ao22 t468.length co22] 31 (0, 0)) (by (with_reducible repeat (first | refine blk_drewN ?_ _ | refine blk_drew ?_ | refine blk_alloc ?_ _)); exact BK471.out) hb); have n6_ := Aside0.mk (below_step (by repeat (first | (with_reducible first | exact HB.out | apply below_alloc | apply pw_below_drewN | apply below_drew1 | refine below_set ?_ GE459.out | refine below_set ?_ GE471.out) | exact HB.out)) hb); clear HO463; clear HO466; clear HO470; clear HO474; clear BK459; clear BK471; clear HB; have HO463 := n0_; have HO466 := n1_; have HO470 := n2_; have HO474 := n3_; have BK459 := n4_; have BK471 := n5_; have HB := n6_; clear n0_ n1_ n2_ n3_ n4_ n5_ n6_; (try clear hb); (try clear hb2); (try clear hk); (try clear hi)))
    go_meet
    case rel => exact ⟨_, (true), (by first | rfl | (simp; done) | (simp [*]; done)), H', ⟨by first | omega | exact Nat.le_refl _⟩, ⟨by (with_reducible repeat (first | apply Kd.R_alloc | apply Kd.R_drewN | apply Kd.R_drew)); exact Kd.R_mono HO466.out (fun _ hk => hk.2)⟩, ⟨by (with_reducible repeat (first | apply Kd.R_alloc | apply Kd.R_drewN | apply Kd.R_drew)); exact Kd.R_mono HO474.out (fun _ hk => hk.2)⟩, ⟨by (with_reducible repeat (first | apply Kd.R_alloc | apply Kd.R_drewN | apply Kd.R_drew)); exact Kd.R_mono HO470.out (fun _ hk => trivial)⟩, ⟨by (with_reducible repeat (first | refine blk_drewN ?_ _ | refine blk_drew ?_ | refine blk_alloc ?_ _)); exact BK459.out⟩, ⟨by (with_reducible repeat (first | refine blk_drewN ?_ _ | refine blk_drew ?_ | refine blk_alloc ?_ _)); exact BK471.out⟩, ⟨by repeat (first | (with_reducible first | exact HB.out | apply below_alloc | apply pw_below_drewN | apply below_drew1 | refine below_set ?_ GE459.out | refine below_set ?_ GE471.out) | exact HB.out)⟩⟩
  case rest =>
   clear HC11
   try clear c1
   try clear c2
   try clear p2
   try clear c3
   try clear c3b0
   try clear c4
   try clear c5
   try clear c7
   try clear c11
   try clear c12
   try clear c13
   try clear c23
   try clear c27
   try clear hcz13_0
   try clear hcz15_0
   try clear hcz19_0
   try clear hcz24_0
   try clear hcz5_0
   try clear hfz13_0
   try clear hfz15_0
   try clear hfz19_0
   try clear hfz24_0
   try clear hfz5_0
   obtain ⟨kq, x40_10, rfl, HA, HJ10, HO_4, HO_7, HO_472000, BK459, BK471, HB⟩ := hcut
   cases kq with
   | zero => exact absurd HA.out (by simp [laws_FnExactNeighborPairs.j0])
   | succ kj10 =>
    have H := HA.out
    clear HA
    simp only [laws_FnExactNeighborPairs.j0] at H
    by_cases c34 : x40_10 = true
    ·
     subst c34
     have H1 : (some false) = some r := by rw [if_pos rfl] at H; exact H
     clear H
     have H := H1
     clear H1
     obtain rfl := Option.some.inj H
     go_wp2
     go_ret
     exact ⟨by first | rfl | (simp [errW_none, errW_some] <;> rfl) | (simp [*, errW_none, errW_some] <;> rfl), by repeat (first | (with_reducible first | exact HB.out | apply below_alloc | apply pw_below_drewN | apply below_drew1 | refine below_set ?_ GE459.out | refine below_set ?_ GE471.out) | exact HB.out)⟩
    ·
     replace c34 := Bool.eq_false_iff.mpr c34
     subst c34
     have H1 : ((laws_toTrie.f kj10 l0_0).bind fun t477 => ((laws_eqTrie.f kj10 t468 t477).bind fun t480 => (if t480 = true then ((laws_markTrie.f kj10 t468 1).bind fun bt481 => (if bt481.1 < 0 then (laws_FnExactNeighborPairs.j1 kj10 t464 t467 t472 true l0_0) else ((laws_eqIntA2S.f kj10 t472 t464).bind fun t483 => (if t483 = true then (laws_FnExactNeighborPairs.j1 kj10 t464 t467 t472 (t475 != t467) l0_0) else (laws_FnExactNeighborPairs.j1 kj10 t464 t467 t472 true l0_0))))) else (some false)))) = some r := by rw [if_neg (show ¬ (false = true) by decide)] at H; exact H
     clear H
     have H := H1
     clear H1
     replace H := Option.bind_eq_some_iff.mp H
     obtain ⟨t477, A350, H⟩ := H
     replace H : ((laws_eqTrie.f kj10 t468 t477).bind fun t480 => (if t480 = true then ((laws_markTrie.f kj10 t468 1).bind fun bt481 => (if bt481.1 < 0 then (laws_FnExactNeighborPairs.j1 kj10 t464 t467 t472 true l0_0) else ((laws_eqIntA2S.f kj10 t472 t464).bind fun t483 => (if t483 = true then (laws_FnExactNeighborPairs.j1 kj10 t464 t467 t472 (t475 != t467) l0_0) else (laws_FnExactNeighborPairs.j1 kj10 t464 t467 t472 true l0_0))))) else (some false))) = some r := H
     have A35 := Aside0.mk A350
     clear A350
     replace H := Option.bind_eq_some_iff.mp H
     obtain ⟨t480, A360, H⟩ := H
     replace H : (if t480 = true then ((laws_markTrie.f kj10 t468 1).bind fun bt481 => (if bt481.1 < 0 then (laws_FnExactNeighborPairs.j1 kj10 t464 t467 t472 true l0_0) else ((laws_eqIntA2S.f kj10 t472 t464).bind fun t483 => (if t483 = true then (laws_FnExactNeighborPairs.j1 kj10 t464 t467 t472 (t475 != t467) l0_0) else (laws_FnExactNeighborPairs.j1 kj10 t464 t467 t472 true l0_0))))) else (some false)) = some r := H
     have A36 := Aside0.mk A360
     clear A360
     by_cases c37 : t480 = true
     ·
      subst c37
      have H1 : ((laws_markTrie.f kj10 t468 1).bind fun bt481 => (if bt481.1 < 0 then (laws_FnExactNeighborPairs.j1 kj10 t464 t467 t472 true l0_0) else ((laws_eqIntA2S.f kj10 t472 t464).bind fun t483 => (if t483 = true then (laws_FnExactNeighborPairs.j1 kj10 t464 t467 t472 (t475 != t467) l0_0) else (laws_FnExactNeighborPairs.j1 kj10 t464 t467 t472 true l0_0))))) = some r := by rw [if_pos rfl] at H; exact H
      clear H
      have H := H1
      clear H1
      replace H := Option.bind_eq_some_iff.mp H
      obtain ⟨⟨t481, t482⟩, A380, H⟩ := H
      replace H : (if t481 < 0 then (laws_FnExactNeighborPairs.j1 kj10 t464 t467 t472 true l0_0) else ((laws_eqIntA2S.f kj10 t472 t464).bind fun t483 => (if t483 = true then (laws_FnExactNeighborPairs.j1 kj10 t464 t467 t472 (t475 != t467) l0_0) else (laws_FnExactNeighborPairs.j1 kj10 t464 t467 t472 true l0_0)))) = some r := H
      have A38 := Aside0.mk A380
      clear A380
      have HC39 := Aside0.mk H
      clear H
      try go_wp2
      have n0_ := Aside0.mk (Kd.R_drew HO_4.out)
      have n1_ := Aside0.mk (Kd.R_drew HO_7.out)
      have n2_ := Aside0.mk (Kd.R_drew HO_472000.out)
      have n3_ := Aside0.mk (blk_drew BK459.out)
      have n4_ := Aside0.mk (blk_drew BK471.out)
      have n5_ := Aside0.mk (below_drew1 HB.out)
      clear HO_4
      clear HO_7
      clear HO_472000
      clear BK459
      clear BK471
      clear HB
      have HO_4 := n0_
      have HO_7 := n1_
      have HO_472000 := n2_
      have BK459 := n3_
      have BK471 := n4_
      have HB := n5_
      clear n0_ n1_ n2_ n3_ n4_ n5_
      refine start_ (n := 5) (S := fun w' => w'.cell? ⟨gb471, 0, none⟩ = some (.slice Ao22 t468.length co22) ∧ w'.cell? ⟨gb459, 0, none⟩ = some (.slice A0_0 l0_0.length c0_0)) (ds := []) #[false, false, false, false, false] (by kernel_rfl) rfl rfl ⟨(blk_cell BK471.out 0).trans rfl, (blk_cell BK459.out 0).trans rfl⟩ (fun hHeld => ?_)
      generalize wc.drew = w40 at HO_4 HO_7 HO_472000 BK459 BK471 HB hHeld ⊢
      refine take_ (i := 0) (N := some 41) (v := ?_) (a' := ?_) #[true, false, false, false, false] rfl rfl (by kernel_rfl) (fun _ _ _ h => h) (Or.inl ⟨by rfl, ?_⟩) hHeld ?_ ?_
      rotate_left
      ·
       rintro w' ⟨s0, s1⟩
       go_simp
       with_reducible rfl
      rotate_left
      ·
       simp only [Act.put, List.setIfInBounds_toArray, List.set_cons_zero, List.set_cons_succ, i64_w, i32_w]
       rfl
      refine take_ (i := 1) (N := some 42) (v := ?_) (a' := ?_) #[true, true, false, false, false] rfl rfl (by kernel_rfl) (fun _ _ _ h => h) (Or.inl ⟨by rfl, ?_⟩) hHeld ?_ ?_
      rotate_left
      ·
       rintro w' ⟨s0, s1⟩
       go_simp
       with_reducible rfl
      rotate_left
      ·
       simp only [Act.put, List.setIfInBounds_toArray, List.set_cons_zero, List.set_cons_succ, i64_w, i32_w]
       rfl
      refine one_ (i := 2) (N := some 43) #[true, true, true, false, false] rfl rfl (by kernel_rfl) (by decide) (fun K hK => ?_)
      refine goes_ Try.func7 (by kernel_rfl) rfl #[.agg #[.slice A0_0 l0_0.length c0_0]] (by rfl) rfl rfl (by (try simp only [List.map_toArray, List.map_cons, List.map_nil]); first | done | rfl | (simp only [List.length_drop, List.length_take]; rfl)) ?_
      with_reducible refine (laws_toTrie.calls kj10 _ _ l0_0 t477 _ ?side1 ?side2 A35.out).mono ?_
      (case side1 => repeat (first | exact (Kd.C_below HR0_0.out HB.out) | (with_reducible refine Kd.C_alloc ?_ _) | (with_reducible refine Kd.C_drewN ?_ _) | (with_reducible refine Kd.C_drew ?_)))
      (case side2 => exact HC0_0.out)
      rintro e w41 ⟨v478, rfl, ho0, hb⟩
      refine ⟨_, rfl, ?_⟩
      have n0_ := Aside0.mk (Kd.R_below (by (with_reducible repeat (first | apply Kd.R_alloc | apply Kd.R_drewN | apply Kd.R_drew)); exact HO_4.out) hb)
      have n1_ := Aside0.mk (Kd.R_below (by (with_reducible repeat (first | apply Kd.R_alloc | apply Kd.R_drewN | apply Kd.R_drew)); exact HO_7.out) hb)
      have n2_ := Aside0.mk (Kd.R_elder' (by (with_reducible repeat (first | apply Kd.R_alloc | apply Kd.R_drewN | apply Kd.R_drew)); exact HO_472000.out) (Kd.R_base ho0) hb)
      have n3_ := Aside0.mk (Kd.R_lower (Kd.R_new' ho0 (Kd.R_lt (by (with_reducible repeat (first | apply Kd.R_alloc | apply Kd.R_drewN | apply Kd.R_drew)); exact HO_472000.out))) (below_size (by repeat (first | (with_reducible first | exact HB.out | apply below_alloc | apply pw_below_drewN | apply below_drew1 | refine below_set ?_ GE459.out | refine below_set ?_ GE471.out) | exact HB.out))))
      have n4_ := Aside0.mk (blk_below (g := gb459) (o := .cells #[.slice A0_0 l0_0.length c0_0] 24 (0, 0)) (by (with_reducible repeat (first | refine blk_drewN ?_ _ | refine blk_drew ?_ | refine blk_alloc ?_ _)); exact BK459.out) hb)
      have n5_ := Aside0.mk (blk_below (g := gb471) (o := .cells #[.slice Ao22 t468.length co22] 31 (0, 0)) (by (with_reducible repeat (first | refine blk_drewN ?_ _ | refine blk_drew ?_ | refine blk_alloc ?_ _)); exact BK471.out) hb)
      have n6_ := Aside0.mk (below_step (by repeat (first | (with_reducible first | exact HB.out | apply below_alloc | apply pw_below_drewN | apply below_drew1 | refine below_set ?_ GE459.out | refine below_set ?_ GE471.out) | exact HB.out)) hb)
      clear HO_4
      clear HO_7
      clear HO_472000
      clear BK459
      clear BK471
      clear HB
      have HO_4 := n0_
      have HO_7 := n1_
      have HO_472000 := n2_
      have HO479 := n3_
      have BK459 := n4_
      have BK471 := n5_
      have HB := n6_
      clear n0_ n1_ n2_ n3_ n4_ n5_ n6_
      (try clear hb)
      (try clear hb2)
      (try clear hk)
      (try clear hi)
      (try clear ho0)
      obtain ⟨Ao42, co42, eo42⟩ := Kd.R_slice HO479.out
      (first | subst eo42 | (injection eo42 with f1_ f2_ f3_; have f4_ := f1_.symm; have f5_ := f3_.symm; clear f1_ f2_ f3_; subst f4_; subst f5_))
      refine hK.out _ _ ⟨(blk_cell BK471.out 0).trans rfl, (blk_cell BK459.out 0).trans rfl⟩ (fun hHeld => ?_)
      clear hK K
      refine norm_ (a' := ?_) ?_ ?_
      rotate_left
      ·
       show Act.put _ (some 43) _ = _
       simp only [Act.put, List.setIfInBounds_toArray, List.set_cons_zero, List.set_cons_succ, i64_w, i32_w]
       rfl
      refine one_ (i := 3) (N := some 44) #[true, true, true, true, false] rfl rfl (by kernel_rfl) (by decide) (fun K hK => ?_)
      refine goes_ Try.func10 (by kernel_rfl) rfl #[.agg #[.slice Ao22 t468.length co22], .agg #[.slice Ao42 t477.length co42]] (by rfl) rfl rfl (by (try simp only [List.map_toArray, List.map_cons, List.map_nil]); first | done | rfl | (simp only [List.length_drop, List.length_take]; rfl)) ?_
      with_reducible refine (laws_eqTrie.calls kj10 _ _ t468 _ _ t477 true _ ?side1 ?side2 ?side3 ?side4 A36.out).mono ?_
      (case side1 => repeat (first | exact (Kd.R_reads' HO_472000.out).2.2 | (with_reducible refine Kd.C_alloc ?_ _) | (with_reducible refine Kd.C_drewN ?_ _) | (with_reducible refine Kd.C_drew ?_)))
      (case side2 => exact (Kd.R_reads' HO_472000.out).2.1)
      (case side3 => repeat (first | exact (Kd.R_reads' HO479.out).2.2 | (with_reducible refine Kd.C_alloc ?_ _) | (with_reducible refine Kd.C_drewN ?_ _) | (with_reducible refine Kd.C_drew ?_)))
      (case side4 => exact (Kd.R_reads' HO479.out).2.1)
      rintro e w43 ⟨rfl, hb⟩
      refine ⟨_, rfl, ?_⟩
      have n0_ := Aside0.mk (Kd.R_below (by (with_reducible repeat (first | apply Kd.R_alloc | apply Kd.R_drewN | apply Kd.R_drew)); exact HO_4.out) hb)
      have n1_ := Aside0.mk (Kd.R_below (by (with_reducible repeat (first | apply Kd.R_alloc | apply Kd.R_drewN | apply Kd.R_drew)); exact HO_7.out) hb)
      have n2_ := Aside0.mk (Kd.R_below (by (with_reducible repeat (first | apply Kd.R_alloc | apply Kd.R_drewN | apply Kd.R_drew)); exact HO_472000.out) hb)
      have n3_ := Aside0.mk (Kd.R_below (by (with_reducible repeat (first | apply Kd.R_alloc | apply Kd.R_drewN | apply Kd.R_drew)); exact HO479.out) hb)
      have n4_ := Aside0.mk (blk_below (g := gb459) (o := .cells #[.slice A0_0 l0_0.length c0_0] 24 (0, 0)) (by (with_reducible repeat (first | refine blk_drewN ?_ _ | refine blk_drew ?_ | refine blk_alloc ?_ _)); exact BK459.out) hb)
      have n5_ := Aside0.mk (blk_below (g := gb471) (o := .cells #[.slice Ao22 t468.length co22] 31 (0, 0)) (by (with_reducible repeat (first | refine blk_drewN ?_ _ | refine blk_drew ?_ | refine blk_alloc ?_ _)); exact BK471.out) hb)
      have n6_ := Aside0.mk (below_step (by repeat (first | (with_reducible first | exact HB.out | apply below_alloc | apply pw_below_drewN | apply below_drew1 | refine below_set ?_ GE459.out | refine below_set ?_ GE471.out) | exact HB.out)) hb)
      clear HO_4
      clear HO_7
      clear HO_472000
      clear HO479
      clear BK459
      clear BK471
      clear HB
      have HO_4 := n0_
      have HO_7 := n1_
      have HO_472000 := n2_
      have HO479 := n3_
      have BK459 := n4_
      have BK471 := n5_
      have HB := n6_
      clear n0_ n1_ n2_ n3_ n4_ n5_ n6_
      (try clear hb)
      (try clear hb2)
      (try clear hk)
      (try clear hi)
      refine hK.out _ _ ⟨(blk_cell BK471.out 0).trans rfl, (blk_cell BK459.out 0).trans rfl⟩ (fun hHeld => ?_)
      clear hK K
      refine norm_ (a' := ?_) ?_ ?_
      rotate_left
      ·
       show Act.put _ (some 44) _ = _
       simp only [Act.put, List.setIfInBounds_toArray, List.set_cons_zero, List.set_cons_succ, i64_w, i32_w]
       rfl
      refine pure_ (i := 4) (N := some 45) (v := ?_) (a' := ?_) #[true, true, true, true, true] rfl rfl (by kernel_rfl) (fun _ _ _ h => h) (Or.inl ⟨by rfl, ?_⟩) ?_ ?_
      rotate_left
      ·
       intro w'
       go_simp
       with_reducible rfl
      rotate_left
      ·
       simp only [Act.put, List.setIfInBounds_toArray, List.set_cons_zero, List.set_cons_succ, i64_w, i32_w]
       rfl
      refine done_ (by kernel_rfl) ?_
      have hnb44 := NB471_459.out
      have hnc44 := NB459_471.out
      have hcz45_0 : w43.cell? ⟨gb471, 0, none⟩ = some (.slice Ao22 t468.length co22) := (blk_cell BK471.out 0).trans rfl
      have hfz45_0 := blk_frozen BK471.out 0
      go_upto_region 14 with (first | ((with_reducible refine gate_callee (f := 14) rfl ?_); refine goesL_ (some 48) rfl rfl Try.func14 (by kernel_rfl) rfl #[.agg #[.slice Ao22 t468.length co22], .int .i64 1] rfl (by (try simp only [List.map_toArray, List.map_cons, List.map_nil]); first | done | rfl | (simp only [List.length_drop, List.length_take]; rfl)) ?_; (with_reducible refine (laws_markTrie.calls kj10 (fun k_ => some k_ = (.slice Ao22 t468.length co22 : Value).ownBlock) (.slice Ao22 t468.length co22) t468 1 t481 t482 w _ ?side1 ?side2 A38.out).mono ?_); (case side1 => repeat (first | (with_reducible first | exact HB.out | apply below_alloc | apply pw_below_drewN | apply below_drew1 | refine below_set ?_ GE459.out | refine below_set ?_ GE471.out) | exact HB.out)); (case side2 => exact Kd.R_tight rfl HO_472000.out); rintro e w46 ⟨rfl, hy0, hb, hkp⟩; refine ⟨_, rfl, ?_⟩; have n0_ := Aside0.mk (Kd.R_mono (ok' := fun k_ => some k_ ≠ (v473 : Value).ownBlock) (Kd.R_keptB ((Kd.R_apart' HO_4.out (Kd.R_typed HO_472000.out) (by decide))) hkp (fun k_ hk_ hs_ => (hk_.2) hs_)) (fun k_ hk_ => hk_.1.1)); have n1_ := Aside0.mk (Kd.R_mono (ok' := fun k_ => some k_ ≠ (v465 : Value).ownBlock) (Kd.R_keptB ((Kd.R_apart' HO_7.out (Kd.R_typed HO_472000.out) (by decide))) hkp (fun k_ hk_ hs_ => (hk_.2) hs_)) (fun k_ hk_ => hk_.1.1)); have n2_ := Aside0.mk (Kd.R_reok rfl hy0 (fun k_ e_ => HO_472000.out.1 k_ e_)); have n3_ := Aside0.mk (blk_kept (by (with_reducible repeat (first | refine blk_drewN ?_ _ | refine blk_drew ?_ | refine blk_alloc ?_ _)); exact BK459.out) hkp (fun hs_ => (fun e_ => (Kd.R_ne HO_472000.out BK459.out (by decide)) e_) hs_)); have n4_ := Aside0.mk (blk_kept (by (with_reducible repeat (first | refine blk_drewN ?_ _ | refine blk_drew ?_ | refine blk_alloc ?_ _)); exact BK471.out) hkp (fun hs_ => (fun e_ => (Kd.R_ne HO_472000.out BK471.out (by decide)) e_) hs_)); have n5_ := Aside0.mk (Kd.R_mono (ok' := fun k_ => some k_ ≠ (.slice Ao22 t468.length co22 : Value).ownBlock) (Kd.R_keptB (HO479.out) hkp (fun k_ hk_ hs_ => (hk_.2) hs_)) (fun k_ hk_ => hk_.1.2)); have n6_ := Aside0.mk (hb); clear HO_4; clear HO_7; clear HO_472000; clear BK459; clear BK471; clear HO479; clear HB; have HO_4 := n0_; have HO_7 := n1_; have HO_472000 := n2_; have BK459 := n3_; have BK471 := n4_; have HO479 := n5_; have HB := n6_; clear n0_ n1_ n2_ n3_ n4_ n5_ n6_; (try clear hb); (try clear hkp); (try clear hy0)))
      (try simp only [Act.put, List.setIfInBounds_toArray, List.set_cons_zero, List.set_cons_succ])
      go_cut [61] (fun v61 wc => ∃ (kq : Nat) (x61_38 : Bool), v61 = .bool x61_38 ∧ Aside0 (laws_FnExactNeighborPairs.j1 kq t464 t467 t472 x61_38 l0_0 = some r) ∧ Aside0 (kq ≤ kj10) ∧ Aside0 (Kd.R k26 26 wc w.heap.size (fun k_ => some k_ ≠ (v473 : Value).ownBlock) v465 t464) ∧ Aside0 (Kd.R k26 26 wc w.heap.size (fun k_ => some k_ ≠ (v465 : Value).ownBlock) v473 t472) ∧ Aside0 (Kd.R k58 58 wc w.heap.size (fun _ => True) (.slice Ao22 t468.length co22) t482) ∧ Aside0 (wc.heap[gb459]? = some (.cells #[(.slice A0_0 l0_0.length c0_0)] 24 (0, 0))) ∧ Aside0 (wc.heap[gb471]? = some (.cells #[(.slice Ao22 t468.length co22)] 31 (0, 0))) ∧ Aside0 (Below w.heap.size w wc))
      case first =>
       have H := HC39.out
       clear HC39
       by_cases c47 : t481 < 0
       ·
        rw [if_pos c47] at H
        have c47b0 : decide (t481 < 0) = true := decide_eq_true c47
        clear c47
        (first | rw [c47b0] | (simp only [i64_w, i32_w]; rw [c47b0]) | skip)
        have H' := Aside0.mk H
        clear H
        go_wp2
        go_meet
        case rel => exact ⟨_, (true), (by first | rfl | (simp; done) | (simp [*]; done)), H', ⟨by have := HJ10.out; first | omega | exact Nat.le_refl _⟩, ⟨by (with_reducible repeat (first | apply Kd.R_alloc | apply Kd.R_drewN | apply Kd.R_drew)); exact HO_4.out⟩, ⟨by (with_reducible repeat (first | apply Kd.R_alloc | apply Kd.R_drewN | apply Kd.R_drew)); exact HO_7.out⟩, ⟨by (with_reducible repeat (first | apply Kd.R_alloc | apply Kd.R_drewN | apply Kd.R_drew)); exact Kd.R_mono HO_472000.out (fun _ hk => trivial)⟩, ⟨by (with_reducible repeat (first | refine blk_drewN ?_ _ | refine blk_drew ?_ | refine blk_alloc ?_ _)); exact BK459.out⟩, ⟨by (with_reducible repeat (first | refine blk_drewN ?_ _ | refine blk_drew ?_ | refine blk_alloc ?_ _)); exact BK471.out⟩, ⟨by repeat (first | (with_reducible first | exact HB.out | apply below_alloc | apply pw_below_drewN | apply below_drew1 | refine below_set ?_ GE459.out | refine below_set ?_ GE471.out) | exact HB.out)⟩⟩
       ·
        rw [if_neg c47] at H
        have c47b0 : decide (t481 < 0) = false := decide_eq_false c47
        clear c47
        (first | rw [c47b0] | (simp only [i64_w, i32_w]; rw [c47b0]) | skip)
        replace H := Option.bind_eq_some_iff.mp H
        obtain ⟨t483, A480, H⟩ := H
        replace H : (if t483 = true then (laws_FnExactNeighborPairs.j1 kj10 t464 t467 t472 (t475 != t467) l0_0) else (laws_FnExactNeighborPairs.j1 kj10 t464 t467 t472 true l0_0)) = some r := H
        have A48 := Aside0.mk A480
        clear A480
        by_cases c49 : t483 = true
        ·
         subst c49
         have H1 : (laws_FnExactNeighborPairs.j1 kj10 t464 t467 t472 (t475 != t467) l0_0) = some r := by rw [if_pos rfl] at H; exact H
         clear H
         have H := H1
         clear H1
         have H' := Aside0.mk H
         clear H
         obtain ⟨Ao50, co50, eo50⟩ := Kd.R_slice HO_7.out
         subst eo50
         obtain ⟨Ao51, co51, eo51⟩ := Kd.R_slice HO_4.out
         subst eo51
         go_wp2_with (first | (go_at_call 13; (with_reducible refine (laws_eqIntA2S.calls kj10 _ _ t472 _ _ t464 true _ ?side1 ?side2 ?side3 ?side4 A48.out).mono ?_); (case side1 => repeat (first | exact (Kd.R_reads' HO_7.out).2.2 | (with_reducible refine Kd.C_alloc ?_ _) | (with_reducible refine Kd.C_drewN ?_ _) | (with_reducible refine Kd.C_drew ?_))); (case side2 => exact (Kd.R_reads' HO_7.out).2.1); (case side3 => repeat (first | exact (Kd.R_reads' HO_4.out).2.2 | (with_reducible refine Kd.C_alloc ?_ _) | (with_reducible refine Kd.C_drewN ?_ _) | (with_reducible refine Kd.C_drew ?_))); (case side4 => exact (Kd.R_reads' HO_4.out).2.1); rintro e w52 ⟨rfl, hb⟩; have n0_ := Aside0.mk (Kd.R_below (by (with_reducible repeat (first | apply Kd.R_alloc | apply Kd.R_drewN | apply Kd.R_drew)); exact HO_4.out) hb); have n1_ := Aside0.mk (Kd.R_below (by (with_reducible repeat (first | apply Kd.R_alloc | apply Kd.R_drewN | apply Kd.R_drew)); exact HO_7.out) hb); have n2_ := Aside0.mk (Kd.R_below (by (with_reducible repeat (first | apply Kd.R_alloc | apply Kd.R_drewN | apply Kd.R_drew)); exact HO_472000.out) hb); have n3_ := Aside0.mk (Kd.R_below (by (with_reducible repeat (first | apply Kd.R_alloc | apply Kd.R_drewN | apply Kd.R_drew)); exact HO479.out) hb); have n4_ := Aside0.mk (blk_below (g := gb459) (o := .cells #[.slice A0_0 l0_0.length c0_0] 24 (0, 0)) (by (with_reducible repeat (first | refine blk_drewN ?_ _ | refine blk_drew ?_ | refine blk_alloc ?_ _)); exact BK459.out) hb); have n5_ := Aside0.mk (blk_below (g := gb471) (o := .cells #[.slice Ao22 t468.length co22] 31 (0, 0)) (by (with_reducible repeat (first | refine blk_drewN ?_ _ | refine blk_drew ?_ | refine blk_alloc ?_ _)); exact BK471.out) hb); have n6_ := Aside0.mk (below_step (by repeat (first | (with_reducible first | exact HB.out | apply below_alloc | apply pw_below_drewN | apply below_drew1 | refine below_set ?_ GE459.out | refine below_set ?_ GE471.out) | exact HB.out)) hb); clear HO_4; clear HO_7; clear HO_472000; clear HO479; clear BK459; clear BK471; clear HB; have HO_4 := n0_; have HO_7 := n1_; have HO_472000 := n2_; have HO479 := n3_; have BK459 := n4_; have BK471 := n5_; have HB := n6_; clear n0_ n1_ n2_ n3_ n4_ n5_ n6_; (try clear hb); (try clear hb2); (try clear hk); (try clear hi)))
         go_meet
         case rel => exact ⟨_, ((t475 != t467)), (by first | rfl | (simp; done) | (simp [*]; done)), H', ⟨by have := HJ10.out; first | omega | exact Nat.le_refl _⟩, ⟨by (with_reducible repeat (first | apply Kd.R_alloc | apply Kd.R_drewN | apply Kd.R_drew)); exact HO_4.out⟩, ⟨by (with_reducible repeat (first | apply Kd.R_alloc | apply Kd.R_drewN | apply Kd.R_drew)); exact HO_7.out⟩, ⟨by (with_reducible repeat (first | apply Kd.R_alloc | apply Kd.R_drewN | apply Kd.R_drew)); exact Kd.R_mono HO_472000.out (fun _ hk => trivial)⟩, ⟨by (with_reducible repeat (first | refine blk_drewN ?_ _ | refine blk_drew ?_ | refine blk_alloc ?_ _)); exact BK459.out⟩, ⟨by (with_reducible repeat (first | refine blk_drewN ?_ _ | refine blk_drew ?_ | refine blk_alloc ?_ _)); exact BK471.out⟩, ⟨by repeat (first | (with_reducible first | exact HB.out | apply below_alloc | apply pw_below_drewN | apply below_drew1 | refine below_set ?_ GE459.out | refine below_set ?_ GE471.out) | exact HB.out)⟩⟩
        ·
         replace c49 := Bool.eq_false_iff.mpr c49
         subst c49
         have H1 : (laws_FnExactNeighborPairs.j1 kj10 t464 t467 t472 true l0_0) = some r := by rw [if_neg (show ¬ (false = true) by decide)] at H; exact H
         clear H
         have H := H1
         clear H1
         have H' := Aside0.mk H
         clear H
         obtain ⟨Ao53, co53, eo53⟩ := Kd.R_slice HO_7.out
         subst eo53
         obtain ⟨Ao54, co54, eo54⟩ := Kd.R_slice HO_4.out
         subst eo54
         go_wp2_with (first | (go_at_call 13; (with_reducible refine (laws_eqIntA2S.calls kj10 _ _ t472 _ _ t464 false _ ?side1 ?side2 ?side3 ?side4 A48.out).mono ?_); (case side1 => repeat (first | exact (Kd.R_reads' HO_7.out).2.2 | (with_reducible refine Kd.C_alloc ?_ _) | (with_reducible refine Kd.C_drewN ?_ _) | (with_reducible refine Kd.C_drew ?_))); (case side2 => exact (Kd.R_reads' HO_7.out).2.1); (case side3 => repeat (first | exact (Kd.R_reads' HO_4.out).2.2 | (with_reducible refine Kd.C_alloc ?_ _) | (with_reducible refine Kd.C_drewN ?_ _) | (with_reducible refine Kd.C_drew ?_))); (case side4 => exact (Kd.R_reads' HO_4.out).2.1); rintro e w55 ⟨rfl, hb⟩; have n0_ := Aside0.mk (Kd.R_below (by (with_reducible repeat (first | apply Kd.R_alloc | apply Kd.R_drewN | apply Kd.R_drew)); exact HO_4.out) hb); have n1_ := Aside0.mk (Kd.R_below (by (with_reducible repeat (first | apply Kd.R_alloc | apply Kd.R_drewN | apply Kd.R_drew)); exact HO_7.out) hb); have n2_ := Aside0.mk (Kd.R_below (by (with_reducible repeat (first | apply Kd.R_alloc | apply Kd.R_drewN | apply Kd.R_drew)); exact HO_472000.out) hb); have n3_ := Aside0.mk (Kd.R_below (by (with_reducible repeat (first | apply Kd.R_alloc | apply Kd.R_drewN | apply Kd.R_drew)); exact HO479.out) hb); have n4_ := Aside0.mk (blk_below (g := gb459) (o := .cells #[.slice A0_0 l0_0.length c0_0] 24 (0, 0)) (by (with_reducible repeat (first | refine blk_drewN ?_ _ | refine blk_drew ?_ | refine blk_alloc ?_ _)); exact BK459.out) hb); have n5_ := Aside0.mk (blk_below (g := gb471) (o := .cells #[.slice Ao22 t468.length co22] 31 (0, 0)) (by (with_reducible repeat (first | refine blk_drewN ?_ _ | refine blk_drew ?_ | refine blk_alloc ?_ _)); exact BK471.out) hb); have n6_ := Aside0.mk (below_step (by repeat (first | (with_reducible first | exact HB.out | apply below_alloc | apply pw_below_drewN | apply below_drew1 | refine below_set ?_ GE459.out | refine below_set ?_ GE471.out) | exact HB.out)) hb); clear HO_4; clear HO_7; clear HO_472000; clear HO479; clear BK459; clear BK471; clear HB; have HO_4 := n0_; have HO_7 := n1_; have HO_472000 := n2_; have HO479 := n3_; have BK459 := n4_; have BK471 := n5_; have HB := n6_; clear n0_ n1_ n2_ n3_ n4_ n5_ n6_; (try clear hb); (try clear hb2); (try clear hk); (try clear hi)))
         go_meet
         case rel => exact ⟨_, (true), (by first | rfl | (simp; done) | (simp [*]; done)), H', ⟨by have := HJ10.out; first | omega | exact Nat.le_refl _⟩, ⟨by (with_reducible repeat (first | apply Kd.R_alloc | apply Kd.R_drewN | apply Kd.R_drew)); exact HO_4.out⟩, ⟨by (with_reducible repeat (first | apply Kd.R_alloc | apply Kd.R_drewN | apply Kd.R_drew)); exact HO_7.out⟩, ⟨by (with_reducible repeat (first | apply Kd.R_alloc | apply Kd.R_drewN | apply Kd.R_drew)); exact Kd.R_mono HO_472000.out (fun _ hk => trivial)⟩, ⟨by (with_reducible repeat (first | refine blk_drewN ?_ _ | refine blk_drew ?_ | refine blk_alloc ?_ _)); exact BK459.out⟩, ⟨by (with_reducible repeat (first | refine blk_drewN ?_ _ | refine blk_drew ?_ | refine blk_alloc ?_ _)); exact BK471.out⟩, ⟨by repeat (first | (with_reducible first | exact HB.out | apply below_alloc | apply pw_below_drewN | apply below_drew1 | refine below_set ?_ GE459.out | refine below_set ?_ GE471.out) | exact HB.out)⟩⟩
      case rest =>
       clear HC39
       try clear c1
       try clear c2
       try clear p2
       try clear c3
       try clear c3b0
       try clear c4
       try clear c5
       try clear c7
       try clear c10
       try clear c11
       try clear c12
       try clear c13
       try clear c14
       try clear c23
       try clear c27
       try clear c34
       try clear c37
       try clear c44
       try clear c47
       try clear c47b0
       try clear c49
       try clear hcz13_0
       try clear hcz15_0
       try clear hcz19_0
       try clear hcz24_0
       try clear hcz45_0
       try clear hcz5_0
       try clear hfz13_0
       try clear hfz15_0
       try clear hfz19_0
       try clear hfz24_0
       try clear hfz45_0
       try clear hfz5_0
       try clear p2
       obtain ⟨kq, x61_38, rfl, HA, HJ38, HO_4, HO_7, HO_472000, BK459, BK471, HB⟩ := hcut
       have hl472000_38 := (Kd.R_reads' HO_472000.out).1
       rw [hl472000_38] at HO_472000
       (try simp only [hl472000_38])
       (try simp only [hl472000_38] at BK459)
       (try simp only [hl472000_38] at BK471)
       (try simp only [hl472000_38] at HO_4)
       (try simp only [hl472000_38] at HO_7)
       cases kq with
       | zero => exact absurd HA.out (by simp [laws_FnExactNeighborPairs.j1])
       | succ kj38 =>
        have H := HA.out
        clear HA
        simp only [laws_FnExactNeighborPairs.j1] at H
        by_cases c56 : x61_38 = true
        ·
         subst c56
         have H1 : (some false) = some r := by rw [if_pos rfl] at H; exact H
         clear H
         have H := H1
         clear H1
         obtain rfl := Option.some.inj H
         go_wp2
         go_ret
         exact ⟨by first | rfl | (simp [errW_none, errW_some] <;> rfl) | (simp [*, errW_none, errW_some] <;> rfl), by repeat (first | (with_reducible first | exact HB.out | apply below_alloc | apply pw_below_drewN | apply below_drew1 | refine below_set ?_ GE459.out | refine below_set ?_ GE471.out) | exact HB.out)⟩
        ·
         replace c56 := Bool.eq_false_iff.mpr c56
         subst c56
         have H1 : ((laws_markIntA2S.f t472 1).bind fun bt484 => ((laws_heldIntA2S.f bt484.2 1).bind fun t486 => (if t486 < 0 then (some false) else (if t486 = bt484.1 then ((laws_toTrie.f kj38 l0_0).bind fun t487 => ((impl_NeighborPairs.f kj38 t487).bind fun bt490 => ((laws_eqIntA2S.f kj38 bt490.1 t464).bind fun t494 => (if t494 = true then (laws_FnExactNeighborPairs.j2 kj38 bt484.2 bt484.1 (bt490.2 != t467)) else (laws_FnExactNeighborPairs.j2 kj38 bt484.2 bt484.1 true))))) else (some false))))) = some r := by rw [if_neg (show ¬ (false = true) by decide)] at H; exact H
         clear H
         have H := H1
         clear H1
         replace H := Option.bind_eq_some_iff.mp H
         obtain ⟨⟨t484, t485⟩, A570, H⟩ := H
         replace H : ((laws_heldIntA2S.f t485 1).bind fun t486 => (if t486 < 0 then (some false) else (if t486 = t484 then ((laws_toTrie.f kj38 l0_0).bind fun t487 => ((impl_NeighborPairs.f kj38 t487).bind fun bt490 => ((laws_eqIntA2S.f kj38 bt490.1 t464).bind fun t494 => (if t494 = true then (laws_FnExactNeighborPairs.j2 kj38 t485 t484 (bt490.2 != t467)) else (laws_FnExactNeighborPairs.j2 kj38 t485 t484 true))))) else (some false)))) = some r := H
         have A57 := Aside0.mk A570
         clear A570
         replace H := Option.bind_eq_some_iff.mp H
         obtain ⟨t486, A580, H⟩ := H
         replace H : (if t486 < 0 then (some false) else (if t486 = t484 then ((laws_toTrie.f kj38 l0_0).bind fun t487 => ((impl_NeighborPairs.f kj38 t487).bind fun bt490 => ((laws_eqIntA2S.f kj38 bt490.1 t464).bind fun t494 => (if t494 = true then (laws_FnExactNeighborPairs.j2 kj38 t485 t484 (bt490.2 != t467)) else (laws_FnExactNeighborPairs.j2 kj38 t485 t484 true))))) else (some false))) = some r := H
         have A58 := Aside0.mk A580
         clear A580
         by_cases c59 : t486 < 0
         ·
          rw [if_pos c59] at H
          have c59b0 : decide (t486 < 0) = true := decide_eq_true c59
          clear c59
          obtain rfl := Option.some.inj H
          obtain ⟨Ao60, co60, eo60⟩ := Kd.R_slice HO_7.out
          subst eo60
          go_wp2_with (first | ((with_reducible refine gate_callee (f := 15) rfl ?_); refine goesL_ (some 64) rfl rfl Try.func15 (by kernel_rfl) rfl #[.slice Ao60 t472.length co60, .int .i64 1] rfl (by (try simp only [List.map_toArray, List.map_cons, List.map_nil]); first | done | rfl | (simp only [List.length_drop, List.length_take]; rfl)) ?_; (with_reducible refine (laws_markIntA2S.calls (fun k_ => some k_ = (.slice Ao60 t472.length co60 : Value).ownBlock) (.slice Ao60 t472.length co60) t472 1 t484 t485 w _ ?side1 ?side2 A57.out).mono ?_); (case side1 => repeat (first | (with_reducible first | exact HB.out | apply below_alloc | apply pw_below_drewN | apply below_drew1 | refine below_set ?_ GE459.out | refine below_set ?_ GE471.out) | exact HB.out)); (case side2 => exact Kd.R_tight rfl HO_7.out); rintro e w61 ⟨rfl, hy0, hb, hkp⟩; refine ⟨_, rfl, ?_⟩; have n0_ := Aside0.mk (Kd.R_mono (ok' := fun k_ => some k_ ≠ (.slice Ao60 t472.length co60 : Value).ownBlock) (Kd.R_keptB (HO_4.out) hkp (fun k_ hk_ hs_ => (hk_) hs_)) (fun k_ hk_ => hk_.1)); have n1_ := Aside0.mk (Kd.R_reok rfl hy0 (fun k_ e_ => HO_7.out.1 k_ e_)); have n2_ := Aside0.mk (Kd.R_mono (ok' := fun k_ => True) (Kd.R_keptB ((Kd.R_apart' HO_472000.out (Kd.R_typed HO_7.out) (by decide))) hkp (fun k_ hk_ hs_ => (hk_.2) hs_)) (fun k_ hk_ => trivial)); have n3_ := Aside0.mk (blk_kept (by (with_reducible repeat (first | refine blk_drewN ?_ _ | refine blk_drew ?_ | refine blk_alloc ?_ _)); exact BK459.out) hkp (fun hs_ => (fun e_ => (Kd.R_ne HO_7.out BK459.out (by decide)) e_) hs_)); have n4_ := Aside0.mk (blk_kept (by (with_reducible repeat (first | refine blk_drewN ?_ _ | refine blk_drew ?_ | refine blk_alloc ?_ _)); exact BK471.out) hkp (fun hs_ => (fun e_ => (Kd.R_ne HO_7.out BK471.out (by decide)) e_) hs_)); have n5_ := Aside0.mk (hb); clear HO_4; clear HO_7; clear HO_472000; clear BK459; clear BK471; clear HB; have HO_4 := n0_; have HO_7 := n1_; have HO_472000 := n2_; have BK459 := n3_; have BK471 := n4_; have HB := n5_; clear n0_ n1_ n2_ n3_ n4_ n5_; (try clear hb); (try clear hkp); (try clear hy0)) | ((with_reducible refine gate_callee (f := 16) rfl ?_); refine goesL_ (some 67) rfl rfl Try.func16 (by kernel_rfl) rfl #[.slice Ao60 t485.length co60, .int .i64 1] rfl (by (try simp only [List.map_toArray, List.map_cons, List.map_nil]); first | done | (rw [show t485.length = t472.length from (Kd.R_reads' HO_7.out).1.symm] <;> rfl) | rfl | (simp only [List.length_drop, List.length_take]; rfl)) ?_; (with_reducible refine (laws_heldIntA2S.calls _ _ t485 1 t486 _ ?side1 ?side2 A58.out).mono ?_); (case side1 => repeat (first | exact (Kd.R_reads' HO_7.out).2.2 | (with_reducible refine Kd.C_alloc ?_ _) | (with_reducible refine Kd.C_drewN ?_ _) | (with_reducible refine Kd.C_drew ?_))); (case side2 => rw [show t485.length = t472.length from (Kd.R_reads' HO_7.out).1.symm]; exact (Kd.R_reads' HO_7.out).2.1); rintro e w' ⟨rfl, ⟨nd, rfl⟩⟩; refine ⟨_, rfl, ?_⟩))
          go_ret
          exact ⟨by first | rfl | (simp [errW_none, errW_some] <;> rfl) | (simp [*, errW_none, errW_some] <;> rfl), by repeat (first | (with_reducible first | exact HB.out | apply below_alloc | apply pw_below_drewN | apply below_drew1 | refine below_set ?_ GE459.out | refine below_set ?_ GE471.out) | exact HB.out)⟩
         ·
          rw [if_neg c59] at H
          have c59b0 : decide (t486 < 0) = false := decide_eq_false c59
          clear c59
          by_cases c62 : t486 = t484
          ·
           rw [if_pos c62] at H
           have c62b0 : (t486 == t484) = true := beq_iff_eq.mpr c62
           have c62b1 : (t486 != t484) = false := bne_eq_false_iff_eq.mpr c62
           clear c62
           replace H := Option.bind_eq_some_iff.mp H
           obtain ⟨t487, A630, H⟩ := H
           replace H : ((impl_NeighborPairs.f kj38 t487).bind fun bt490 => ((laws_eqIntA2S.f kj38 bt490.1 t464).bind fun t494 => (if t494 = true then (laws_FnExactNeighborPairs.j2 kj38 t485 t484 (bt490.2 != t467)) else (laws_FnExactNeighborPairs.j2 kj38 t485 t484 true)))) = some r := H
           have A63 := Aside0.mk A630
           clear A630
           replace H := Option.bind_eq_some_iff.mp H
           obtain ⟨⟨t490, t493⟩, A640, H⟩ := H
           replace H : ((laws_eqIntA2S.f kj38 t490 t464).bind fun t494 => (if t494 = true then (laws_FnExactNeighborPairs.j2 kj38 t485 t484 (t493 != t467)) else (laws_FnExactNeighborPairs.j2 kj38 t485 t484 true))) = some r := H
           have A64 := Aside0.mk A640
           clear A640
           have HC65 := Aside0.mk H
           clear H
           obtain ⟨Ao66, co66, eo66⟩ := Kd.R_slice HO_7.out
           subst eo66
           go_upto_region 25 with (first | ((with_reducible refine gate_callee (f := 15) rfl ?_); refine goesL_ (some 64) rfl rfl Try.func15 (by kernel_rfl) rfl #[.slice Ao66 t472.length co66, .int .i64 1] rfl (by (try simp only [List.map_toArray, List.map_cons, List.map_nil]); first | done | rfl | (simp only [List.length_drop, List.length_take]; rfl)) ?_; (with_reducible refine (laws_markIntA2S.calls (fun k_ => some k_ = (.slice Ao66 t472.length co66 : Value).ownBlock) (.slice Ao66 t472.length co66) t472 1 t484 t485 w _ ?side1 ?side2 A57.out).mono ?_); (case side1 => repeat (first | (with_reducible first | exact HB.out | apply below_alloc | apply pw_below_drewN | apply below_drew1 | refine below_set ?_ GE459.out | refine below_set ?_ GE471.out) | exact HB.out)); (case side2 => exact Kd.R_tight rfl HO_7.out); rintro e w67 ⟨rfl, hy0, hb, hkp⟩; refine ⟨_, rfl, ?_⟩; have n0_ := Aside0.mk (Kd.R_mono (ok' := fun k_ => some k_ ≠ (.slice Ao66 t472.length co66 : Value).ownBlock) (Kd.R_keptB (HO_4.out) hkp (fun k_ hk_ hs_ => (hk_) hs_)) (fun k_ hk_ => hk_.1)); have n1_ := Aside0.mk (Kd.R_reok rfl hy0 (fun k_ e_ => HO_7.out.1 k_ e_)); have n2_ := Aside0.mk (Kd.R_mono (ok' := fun k_ => True) (Kd.R_keptB ((Kd.R_apart' HO_472000.out (Kd.R_typed HO_7.out) (by decide))) hkp (fun k_ hk_ hs_ => (hk_.2) hs_)) (fun k_ hk_ => trivial)); have n3_ := Aside0.mk (blk_kept (by (with_reducible repeat (first | refine blk_drewN ?_ _ | refine blk_drew ?_ | refine blk_alloc ?_ _)); exact BK459.out) hkp (fun hs_ => (fun e_ => (Kd.R_ne HO_7.out BK459.out (by decide)) e_) hs_)); have n4_ := Aside0.mk (blk_kept (by (with_reducible repeat (first | refine blk_drewN ?_ _ | refine blk_drew ?_ | refine blk_alloc ?_ _)); exact BK471.out) hkp (fun hs_ => (fun e_ => (Kd.R_ne HO_7.out BK471.out (by decide)) e_) hs_)); have n5_ := Aside0.mk (hb); clear HO_4; clear HO_7; clear HO_472000; clear BK459; clear BK471; clear HB; have HO_4 := n0_; have HO_7 := n1_; have HO_472000 := n2_; have BK459 := n3_; have BK471 := n4_; have HB := n5_; clear n0_ n1_ n2_ n3_ n4_ n5_; (try clear hb); (try clear hkp); (try clear hy0)) | ((with_reducible refine gate_callee (f := 16) rfl ?_); refine goesL_ (some 67) rfl rfl Try.func16 (by kernel_rfl) rfl #[.slice Ao66 t485.length co66, .int .i64 1] rfl (by (try simp only [List.map_toArray, List.map_cons, List.map_nil]); first | done | (rw [show t485.length = t472.length from (Kd.R_reads' HO_7.out).1.symm] <;> rfl) | rfl | (simp only [List.length_drop, List.length_take]; rfl)) ?_; (with_reducible refine (laws_heldIntA2S.calls _ _ t485 1 t486 _ ?side1 ?side2 A58.out).mono ?_); (case side1 => repeat (first | exact (Kd.R_reads' HO_7.out).2.2 | (with_reducible refine Kd.C_alloc ?_ _) | (with_reducible refine Kd.C_drewN ?_ _) | (with_reducible refine Kd.C_drew ?_))); (case side2 => rw [show t485.length = t472.length from (Kd.R_reads' HO_7.out).1.symm]; exact (Kd.R_reads' HO_7.out).2.1); rintro e w' ⟨rfl, ⟨nd, rfl⟩⟩; refine ⟨_, rfl, ?_⟩; have hnb68 := NB459_471.out; have hnc68 := NB471_459.out; have hcz69_0 : w67.cell? ⟨gb459, 0, none⟩ = some (.slice A0_0 l0_0.length c0_0) := (blk_cell BK459.out 0).trans rfl; have hfz69_0 := blk_frozen BK459.out 0) | ((with_reducible refine gate_callee (f := 7) rfl ?_); refine goesL_ (some 75) rfl rfl Try.func7 (by kernel_rfl) rfl #[.agg #[.slice A0_0 l0_0.length c0_0]] rfl (by (try simp only [List.map_toArray, List.map_cons, List.map_nil]); first | done | rfl | (simp only [List.length_drop, List.length_take]; rfl)) ?_; (with_reducible refine (laws_toTrie.calls kj38 _ _ l0_0 t487 _ ?side1 ?side2 A63.out).mono ?_); (case side1 => repeat (first | exact (Kd.C_below HR0_0.out (by repeat (first | (with_reducible first | exact HB.out | apply below_alloc | apply pw_below_drewN | apply below_drew1 | refine below_set ?_ GE459.out | refine below_set ?_ GE471.out) | exact HB.out))) | (with_reducible refine Kd.C_alloc ?_ _) | (with_reducible refine Kd.C_drewN ?_ _) | (with_reducible refine Kd.C_drew ?_))); (case side2 => exact HC0_0.out); rintro e w70 ⟨v488, rfl, ho0, hb⟩; refine ⟨_, rfl, ?_⟩; have n0_ := Aside0.mk (Kd.R_below (by (with_reducible repeat (first | apply Kd.R_alloc | apply Kd.R_drewN | apply Kd.R_drew)); exact HO_4.out) hb); have n1_ := Aside0.mk (Kd.R_below (by (with_reducible repeat (first | apply Kd.R_alloc | apply Kd.R_drewN | apply Kd.R_drew)); exact HO_7.out) hb); have n2_ := Aside0.mk (Kd.R_elder' (by (with_reducible repeat (first | apply Kd.R_alloc | apply Kd.R_drewN | apply Kd.R_drew)); exact HO_472000.out) (Kd.R_base ho0) hb); have n3_ := Aside0.mk (Kd.R_lower (Kd.R_new' ho0 (Kd.R_lt (by (with_reducible repeat (first | apply Kd.R_alloc | apply Kd.R_drewN | apply Kd.R_drew)); exact HO_472000.out))) (below_size (by repeat (first | (with_reducible first | exact HB.out | apply below_alloc | apply pw_below_drewN | apply below_drew1 | refine below_set ?_ GE459.out | refine below_set ?_ GE471.out) | exact HB.out)))); have n4_ := Aside0.mk (blk_below (g := gb459) (o := .cells #[.slice A0_0 l0_0.length c0_0] 24 (0, 0)) (by (with_reducible repeat (first | refine blk_drewN ?_ _ | refine blk_drew ?_ | refine blk_alloc ?_ _)); exact BK459.out) hb); have n5_ := Aside0.mk (blk_below (g := gb471) (o := .cells #[.slice Ao22 t482.length co22] 31 (0, 0)) (by (with_reducible repeat (first | refine blk_drewN ?_ _ | refine blk_drew ?_ | refine blk_alloc ?_ _)); exact BK471.out) hb); have n6_ := Aside0.mk (below_step (by repeat (first | (with_reducible first | exact HB.out | apply below_alloc | apply pw_below_drewN | apply below_drew1 | refine below_set ?_ GE459.out | refine below_set ?_ GE471.out) | exact HB.out)) hb); clear HO_4; clear HO_7; clear HO_472000; clear BK459; clear BK471; clear HB; have HO_4 := n0_; have HO_7 := n1_; have HO_472000 := n2_; have HO489 := n3_; have BK459 := n4_; have BK471 := n5_; have HB := n6_; clear n0_ n1_ n2_ n3_ n4_ n5_ n6_; (try clear hb); (try clear hb2); (try clear hk); (try clear hi); (try clear ho0); obtain ⟨Ao71, co71, eo71⟩ := Kd.R_slice HO489.out; subst eo71) | ((with_reducible refine gate_callee (f := 12) rfl ?_); refine goesL_ (some 76) rfl rfl Try.func12 (by kernel_rfl) rfl #[.agg #[.slice Ao71 t487.length co71]] rfl (by (try simp only [List.map_toArray, List.map_cons, List.map_nil]); first | done | rfl | (simp only [List.length_drop, List.length_take]; rfl)) ?_; (with_reducible refine (impl_NeighborPairs.calls kj38 _ _ t487 t490 t493 _ ?side1 ?side2 A64.out).mono ?_); (case side1 => repeat (first | exact (Kd.R_reads' HO489.out).2.2 | (with_reducible refine Kd.C_alloc ?_ _) | (with_reducible refine Kd.C_drewN ?_ _) | (with_reducible refine Kd.C_drew ?_))); (case side2 => exact (Kd.R_reads' HO489.out).2.1); rintro e w72 ⟨v491, rfl, ho0, hb⟩; refine ⟨_, rfl, ?_⟩; have n0_ := Aside0.mk (Kd.R_elder' (by (with_reducible repeat (first | apply Kd.R_alloc | apply Kd.R_drewN | apply Kd.R_drew)); exact HO_4.out) (Kd.R_base ho0) hb); have n1_ := Aside0.mk (Kd.R_elder' (by (with_reducible repeat (first | apply Kd.R_alloc | apply Kd.R_drewN | apply Kd.R_drew)); exact HO_7.out) (Kd.R_base ho0) hb); have n2_ := Aside0.mk (Kd.R_below (by (with_reducible repeat (first | apply Kd.R_alloc | apply Kd.R_drewN | apply Kd.R_drew)); exact HO_472000.out) hb); have n3_ := Aside0.mk (Kd.R_below (by (with_reducible repeat (first | apply Kd.R_alloc | apply Kd.R_drewN | apply Kd.R_drew)); exact HO489.out) hb); have n4_ := Aside0.mk (Kd.R_lower (Kd.R_new' (Kd.R_new' ho0 (Kd.R_lt (by (with_reducible repeat (first | apply Kd.R_alloc | apply Kd.R_drewN | apply Kd.R_drew)); exact HO_4.out))) (Kd.R_lt (by (with_reducible repeat (first | apply Kd.R_alloc | apply Kd.R_drewN | apply Kd.R_drew)); exact HO_7.out))) (below_size (by repeat (first | (with_reducible first | exact HB.out | apply below_alloc | apply pw_below_drewN | apply below_drew1 | refine below_set ?_ GE459.out | refine below_set ?_ GE471.out) | exact HB.out)))); have n5_ := Aside0.mk (blk_below (g := gb459) (o := .cells #[.slice A0_0 l0_0.length c0_0] 24 (0, 0)) (by (with_reducible repeat (first | refine blk_drewN ?_ _ | refine blk_drew ?_ | refine blk_alloc ?_ _)); exact BK459.out) hb); have n6_ := Aside0.mk (blk_below (g := gb471) (o := .cells #[.slice Ao22 t482.length co22] 31 (0, 0)) (by (with_reducible repeat (first | refine blk_drewN ?_ _ | refine blk_drew ?_ | refine blk_alloc ?_ _)); exact BK471.out) hb); have n7_ := Aside0.mk (below_step (by repeat (first | (with_reducible first | exact HB.out | apply below_alloc | apply pw_below_drewN | apply below_drew1 | refine below_set ?_ GE459.out | refine below_set ?_ GE471.out) | exact HB.out)) hb); clear HO_4; clear HO_7; clear HO_472000; clear HO489; clear BK459; clear BK471; clear HB; have HO_4 := n0_; have HO_7 := n1_; have HO_472000 := n2_; have HO489 := n3_; have HO492 := n4_; have BK459 := n5_; have BK471 := n6_; have HB := n7_; clear n0_ n1_ n2_ n3_ n4_ n5_ n6_ n7_; (try clear hb); (try clear hb2); (try clear hk); (try clear hi); (try clear ho0)))
           (try simp only [Act.put, List.setIfInBounds_toArray, List.set_cons_zero, List.set_cons_succ])
           go_cut [87] (fun v87 wc => ∃ (kq : Nat) (x87_64 : Bool), v87 = .bool x87_64 ∧ Aside0 (laws_FnExactNeighborPairs.j2 kq t485 t484 x87_64 = some r) ∧ Aside0 (kq ≤ kj38) ∧ Aside0 (Kd.R k26 26 wc w.heap.size (fun _ => True) (.slice Ao66 t472.length co66) t485) ∧ Aside0 (Kd.R k58 58 wc w.heap.size (fun _ => True) (.slice Ao22 t482.length co22) t482) ∧ Aside0 (wc.heap[gb459]? = some (.cells #[(.slice A0_0 l0_0.length c0_0)] 24 (0, 0))) ∧ Aside0 (wc.heap[gb471]? = some (.cells #[(.slice Ao22 t482.length co22)] 31 (0, 0))) ∧ Aside0 (Below w.heap.size w wc))
           case first =>
            have H := HC65.out
            clear HC65
            replace H := Option.bind_eq_some_iff.mp H
            obtain ⟨t494, A730, H⟩ := H
            replace H : (if t494 = true then (laws_FnExactNeighborPairs.j2 kj38 t485 t484 (t493 != t467)) else (laws_FnExactNeighborPairs.j2 kj38 t485 t484 true)) = some r := H
            have A73 := Aside0.mk A730
            clear A730
            by_cases c74 : t494 = true
            ·
             subst c74
             have H1 : (laws_FnExactNeighborPairs.j2 kj38 t485 t484 (t493 != t467)) = some r := by rw [if_pos rfl] at H; exact H
             clear H
             have H := H1
             clear H1
             have H' := Aside0.mk H
             clear H
             obtain ⟨Ao75, co75, eo75⟩ := Kd.R_slice HO492.out
             subst eo75
             obtain ⟨Ao76, co76, eo76⟩ := Kd.R_slice HO_4.out
             subst eo76
             go_wp2_with (first | ((with_reducible refine gate_callee (f := 13) rfl ?_); refine goesL_ (some 81) rfl rfl Try.func13 (by kernel_rfl) rfl #[.slice Ao75 t490.length co75, .slice Ao76 t464.length co76] rfl (by (try simp only [List.map_toArray, List.map_cons, List.map_nil]); first | done | rfl | (simp only [List.length_drop, List.length_take]; rfl)) ?_; (with_reducible refine (laws_eqIntA2S.calls kj38 _ _ t490 _ _ t464 true _ ?side1 ?side2 ?side3 ?side4 A73.out).mono ?_); (case side1 => repeat (first | exact (Kd.R_reads' HO492.out).2.2 | (with_reducible refine Kd.C_alloc ?_ _) | (with_reducible refine Kd.C_drewN ?_ _) | (with_reducible refine Kd.C_drew ?_))); (case side2 => exact (Kd.R_reads' HO492.out).2.1); (case side3 => repeat (first | exact (Kd.R_reads' HO_4.out).2.2 | (with_reducible refine Kd.C_alloc ?_ _) | (with_reducible refine Kd.C_drewN ?_ _) | (with_reducible refine Kd.C_drew ?_))); (case side4 => exact (Kd.R_reads' HO_4.out).2.1); rintro e w77 ⟨rfl, hb⟩; refine ⟨_, rfl, ?_⟩; have n0_ := Aside0.mk (Kd.R_below (by (with_reducible repeat (first | apply Kd.R_alloc | apply Kd.R_drewN | apply Kd.R_drew)); exact HO_4.out) hb); have n1_ := Aside0.mk (Kd.R_below (by (with_reducible repeat (first | apply Kd.R_alloc | apply Kd.R_drewN | apply Kd.R_drew)); exact HO_7.out) hb); have n2_ := Aside0.mk (Kd.R_below (by (with_reducible repeat (first | apply Kd.R_alloc | apply Kd.R_drewN | apply Kd.R_drew)); exact HO_472000.out) hb); have n3_ := Aside0.mk (Kd.R_below (by (with_reducible repeat (first | apply Kd.R_alloc | apply Kd.R_drewN | apply Kd.R_drew)); exact HO489.out) hb); have n4_ := Aside0.mk (Kd.R_below (by (with_reducible repeat (first | apply Kd.R_alloc | apply Kd.R_drewN | apply Kd.R_drew)); exact HO492.out) hb); have n5_ := Aside0.mk (blk_below (g := gb459) (o := .cells #[.slice A0_0 l0_0.length c0_0] 24 (0, 0)) (by (with_reducible repeat (first | refine blk_drewN ?_ _ | refine blk_drew ?_ | refine blk_alloc ?_ _)); exact BK459.out) hb); have n6_ := Aside0.mk (blk_below (g := gb471) (o := .cells #[.slice Ao22 t482.length co22] 31 (0, 0)) (by (with_reducible repeat (first | refine blk_drewN ?_ _ | refine blk_drew ?_ | refine blk_alloc ?_ _)); exact BK471.out) hb); have n7_ := Aside0.mk (below_step (by repeat (first | (with_reducible first | exact HB.out | apply below_alloc | apply pw_below_drewN | apply below_drew1 | refine below_set ?_ GE459.out | refine below_set ?_ GE471.out) | exact HB.out)) hb); clear HO_4; clear HO_7; clear HO_472000; clear HO489; clear HO492; clear BK459; clear BK471; clear HB; have HO_4 := n0_; have HO_7 := n1_; have HO_472000 := n2_; have HO489 := n3_; have HO492 := n4_; have BK459 := n5_; have BK471 := n6_; have HB := n7_; clear n0_ n1_ n2_ n3_ n4_ n5_ n6_ n7_; (try clear hb); (try clear hb2); (try clear hk); (try clear hi)))
             go_meet
             case rel => exact ⟨_, ((t493 != t467)), (by first | rfl | (simp; done) | (simp [*]; done)), H', ⟨by have := HJ10.out; have := HJ38.out; first | omega | exact Nat.le_refl _⟩, ⟨by (try simp only [hl472000_38]); (with_reducible repeat (first | apply Kd.R_alloc | apply Kd.R_drewN | apply Kd.R_drew)); exact Kd.R_mono HO_7.out (fun _ hk => trivial)⟩, ⟨by (try simp only [hl472000_38]); (with_reducible repeat (first | apply Kd.R_alloc | apply Kd.R_drewN | apply Kd.R_drew)); exact Kd.R_mono HO_472000.out (fun _ hk => trivial)⟩, ⟨by (try simp only [hl472000_38]); (with_reducible repeat (first | refine blk_drewN ?_ _ | refine blk_drew ?_ | refine blk_alloc ?_ _)); exact BK459.out⟩, ⟨by (try simp only [hl472000_38]); (with_reducible repeat (first | refine blk_drewN ?_ _ | refine blk_drew ?_ | refine blk_alloc ?_ _)); exact BK471.out⟩, ⟨by repeat (first | (with_reducible first | exact HB.out | apply below_alloc | apply pw_below_drewN | apply below_drew1 | refine below_set ?_ GE459.out | refine below_set ?_ GE471.out) | exact HB.out)⟩⟩
            ·
             replace c74 := Bool.eq_false_iff.mpr c74
             subst c74
             have H1 : (laws_FnExactNeighborPairs.j2 kj38 t485 t484 true) = some r := by rw [if_neg (show ¬ (false = true) by decide)] at H; exact H
             clear H
             have H := H1
             clear H1
             have H' := Aside0.mk H
             clear H
             obtain ⟨Ao78, co78, eo78⟩ := Kd.R_slice HO492.out
             subst eo78
             obtain ⟨Ao79, co79, eo79⟩ := Kd.R_slice HO_4.out
             subst eo79
             go_wp2_with (first | ((with_reducible refine gate_callee (f := 13) rfl ?_); refine goesL_ (some 81) rfl rfl Try.func13 (by kernel_rfl) rfl #[.slice Ao78 t490.length co78, .slice Ao79 t464.length co79] rfl (by (try simp only [List.map_toArray, List.map_cons, List.map_nil]); first | done | rfl | (simp only [List.length_drop, List.length_take]; rfl)) ?_; (with_reducible refine (laws_eqIntA2S.calls kj38 _ _ t490 _ _ t464 false _ ?side1 ?side2 ?side3 ?side4 A73.out).mono ?_); (case side1 => repeat (first | exact (Kd.R_reads' HO492.out).2.2 | (with_reducible refine Kd.C_alloc ?_ _) | (with_reducible refine Kd.C_drewN ?_ _) | (with_reducible refine Kd.C_drew ?_))); (case side2 => exact (Kd.R_reads' HO492.out).2.1); (case side3 => repeat (first | exact (Kd.R_reads' HO_4.out).2.2 | (with_reducible refine Kd.C_alloc ?_ _) | (with_reducible refine Kd.C_drewN ?_ _) | (with_reducible refine Kd.C_drew ?_))); (case side4 => exact (Kd.R_reads' HO_4.out).2.1); rintro e w80 ⟨rfl, hb⟩; refine ⟨_, rfl, ?_⟩; have n0_ := Aside0.mk (Kd.R_below (by (with_reducible repeat (first | apply Kd.R_alloc | apply Kd.R_drewN | apply Kd.R_drew)); exact HO_4.out) hb); have n1_ := Aside0.mk (Kd.R_below (by (with_reducible repeat (first | apply Kd.R_alloc | apply Kd.R_drewN | apply Kd.R_drew)); exact HO_7.out) hb); have n2_ := Aside0.mk (Kd.R_below (by (with_reducible repeat (first | apply Kd.R_alloc | apply Kd.R_drewN | apply Kd.R_drew)); exact HO_472000.out) hb); have n3_ := Aside0.mk (Kd.R_below (by (with_reducible repeat (first | apply Kd.R_alloc | apply Kd.R_drewN | apply Kd.R_drew)); exact HO489.out) hb); have n4_ := Aside0.mk (Kd.R_below (by (with_reducible repeat (first | apply Kd.R_alloc | apply Kd.R_drewN | apply Kd.R_drew)); exact HO492.out) hb); have n5_ := Aside0.mk (blk_below (g := gb459) (o := .cells #[.slice A0_0 l0_0.length c0_0] 24 (0, 0)) (by (with_reducible repeat (first | refine blk_drewN ?_ _ | refine blk_drew ?_ | refine blk_alloc ?_ _)); exact BK459.out) hb); have n6_ := Aside0.mk (blk_below (g := gb471) (o := .cells #[.slice Ao22 t482.length co22] 31 (0, 0)) (by (with_reducible repeat (first | refine blk_drewN ?_ _ | refine blk_drew ?_ | refine blk_alloc ?_ _)); exact BK471.out) hb); have n7_ := Aside0.mk (below_step (by repeat (first | (with_reducible first | exact HB.out | apply below_alloc | apply pw_below_drewN | apply below_drew1 | refine below_set ?_ GE459.out | refine below_set ?_ GE471.out) | exact HB.out)) hb); clear HO_4; clear HO_7; clear HO_472000; clear HO489; clear HO492; clear BK459; clear BK471; clear HB; have HO_4 := n0_; have HO_7 := n1_; have HO_472000 := n2_; have HO489 := n3_; have HO492 := n4_; have BK459 := n5_; have BK471 := n6_; have HB := n7_; clear n0_ n1_ n2_ n3_ n4_ n5_ n6_ n7_; (try clear hb); (try clear hb2); (try clear hk); (try clear hi)))
             go_meet
             case rel => exact ⟨_, (true), (by first | rfl | (simp; done) | (simp [*]; done)), H', ⟨by have := HJ10.out; have := HJ38.out; first | omega | exact Nat.le_refl _⟩, ⟨by (try simp only [hl472000_38]); (with_reducible repeat (first | apply Kd.R_alloc | apply Kd.R_drewN | apply Kd.R_drew)); exact Kd.R_mono HO_7.out (fun _ hk => trivial)⟩, ⟨by (try simp only [hl472000_38]); (with_reducible repeat (first | apply Kd.R_alloc | apply Kd.R_drewN | apply Kd.R_drew)); exact Kd.R_mono HO_472000.out (fun _ hk => trivial)⟩, ⟨by (try simp only [hl472000_38]); (with_reducible repeat (first | refine blk_drewN ?_ _ | refine blk_drew ?_ | refine blk_alloc ?_ _)); exact BK459.out⟩, ⟨by (try simp only [hl472000_38]); (with_reducible repeat (first | refine blk_drewN ?_ _ | refine blk_drew ?_ | refine blk_alloc ?_ _)); exact BK471.out⟩, ⟨by repeat (first | (with_reducible first | exact HB.out | apply below_alloc | apply pw_below_drewN | apply below_drew1 | refine below_set ?_ GE459.out | refine below_set ?_ GE471.out) | exact HB.out)⟩⟩
           case rest =>
            clear HC65
            try clear c1
            try clear c2
            try clear p2
            try clear c3
            try clear c3b0
            try clear c4
            try clear c5
            try clear c6
            try clear c7
            try clear c10
            try clear c11
            try clear c12
            try clear c13
            try clear c14
            try clear c15
            try clear c16
            try clear c23
            try clear c27
            try clear c34
            try clear c37
            try clear c44
            try clear c47
            try clear c47b0
            try clear c49
            try clear c56
            try clear c59
            try clear c59b0
            try clear c62
            try clear c62b0
            try clear c62b1
            try clear c68
            try clear c74
            try clear hcz13_0
            try clear hcz15_0
            try clear hcz19_0
            try clear hcz24_0
            try clear hcz45_0
            try clear hcz5_0
            try clear hcz69_0
            try clear hfz13_0
            try clear hfz15_0
            try clear hfz19_0
            try clear hfz24_0
            try clear hfz45_0
            try clear hfz5_0
            try clear hfz69_0
            try clear p2
            obtain ⟨kq, x87_64, rfl, HA, HJ64, HO_7, HO_472000, BK459, BK471, HB⟩ := hcut
            have hl7_64 := (Kd.R_reads' HO_7.out).1
            rw [hl7_64] at HO_7
            (try simp only [hl7_64])
            (try simp only [hl7_64] at BK459)
            (try simp only [hl7_64] at BK471)
            (try simp only [hl7_64] at HO_472000)
            cases kq with
            | zero => exact absurd HA.out (by simp [laws_FnExactNeighborPairs.j2])
            | succ kj64 =>
             have H := HA.out
             clear HA
             simp only [laws_FnExactNeighborPairs.j2] at H
             by_cases c81 : x87_64 = true
             ·
              subst c81
              have H1 : (some false) = some r := by rw [if_pos rfl] at H; exact H
              clear H
              have H := H1
              clear H1
              obtain rfl := Option.some.inj H
              go_wp2
              go_ret
              exact ⟨by first | rfl | (simp [errW_none, errW_some] <;> rfl) | (simp [*, errW_none, errW_some] <;> rfl), by repeat (first | (with_reducible first | exact HB.out | apply below_alloc | apply pw_below_drewN | apply below_drew1 | refine below_set ?_ GE459.out | refine below_set ?_ GE471.out) | exact HB.out)⟩
             ·
              replace c81 := Bool.eq_false_iff.mpr c81
              subst c81
              have H1 : ((laws_heldIntA2S.f t485 1).bind fun t495 => (if t495 < 0 then (some false) else (if t495 = t484 then (some true) else (some false)))) = some r := by rw [if_neg (show ¬ (false = true) by decide)] at H; exact H
              clear H
              have H := H1
              clear H1
              replace H := Option.bind_eq_some_iff.mp H
              obtain ⟨t495, A820, H⟩ := H
              replace H : (if t495 < 0 then (some false) else (if t495 = t484 then (some true) else (some false))) = some r := H
              have A82 := Aside0.mk A820
              clear A820
              by_cases c83 : t495 < 0
              ·
               rw [if_pos c83] at H
               have c83b0 : decide (t495 < 0) = true := decide_eq_true c83
               clear c83
               obtain rfl := Option.some.inj H
               go_wp2_with (first | ((with_reducible refine gate_callee (f := 16) rfl ?_); refine goesL_ (some 90) rfl rfl Try.func16 (by kernel_rfl) rfl #[.slice Ao66 t485.length co66, .int .i64 1] rfl (by (try simp only [List.map_toArray, List.map_cons, List.map_nil]); first | done | rfl | (simp only [List.length_drop, List.length_take]; rfl)) ?_; (with_reducible refine (laws_heldIntA2S.calls _ _ t485 1 t495 _ ?side1 ?side2 A82.out).mono ?_); (case side1 => repeat (first | exact (Kd.R_reads' HO_7.out).2.2 | (with_reducible refine Kd.C_alloc ?_ _) | (with_reducible refine Kd.C_drewN ?_ _) | (with_reducible refine Kd.C_drew ?_))); (case side2 => exact (Kd.R_reads' HO_7.out).2.1); rintro e w' ⟨rfl, ⟨nd, rfl⟩⟩; refine ⟨_, rfl, ?_⟩))
               go_ret
               exact ⟨by first | rfl | (simp [errW_none, errW_some] <;> rfl) | (simp [*, errW_none, errW_some] <;> rfl), by repeat (first | (with_reducible first | exact HB.out | apply below_alloc | apply pw_below_drewN | apply below_drew1 | refine below_set ?_ GE459.out | refine below_set ?_ GE471.out) | exact HB.out)⟩
              ·
               rw [if_neg c83] at H
               have c83b0 : decide (t495 < 0) = false := decide_eq_false c83
               clear c83
               by_cases c84 : t495 = t484
               ·
                rw [if_pos c84] at H
                have c84b0 : (t495 == t484) = true := beq_iff_eq.mpr c84
                have c84b1 : (t495 != t484) = false := bne_eq_false_iff_eq.mpr c84
                clear c84
                obtain rfl := Option.some.inj H
                go_wp2_with (first | ((with_reducible refine gate_callee (f := 16) rfl ?_); refine goesL_ (some 90) rfl rfl Try.func16 (by kernel_rfl) rfl #[.slice Ao66 t485.length co66, .int .i64 1] rfl (by (try simp only [List.map_toArray, List.map_cons, List.map_nil]); first | done | rfl | (simp only [List.length_drop, List.length_take]; rfl)) ?_; (with_reducible refine (laws_heldIntA2S.calls _ _ t485 1 t495 _ ?side1 ?side2 A82.out).mono ?_); (case side1 => repeat (first | exact (Kd.R_reads' HO_7.out).2.2 | (with_reducible refine Kd.C_alloc ?_ _) | (with_reducible refine Kd.C_drewN ?_ _) | (with_reducible refine Kd.C_drew ?_))); (case side2 => exact (Kd.R_reads' HO_7.out).2.1); rintro e w' ⟨rfl, ⟨nd, rfl⟩⟩; refine ⟨_, rfl, ?_⟩))
                go_ret
                exact ⟨by first | rfl | (simp [errW_none, errW_some] <;> rfl) | (simp [*, errW_none, errW_some] <;> rfl), by repeat (first | (with_reducible first | exact HB.out | apply below_alloc | apply pw_below_drewN | apply below_drew1 | refine below_set ?_ GE459.out | refine below_set ?_ GE471.out) | exact HB.out)⟩
               ·
                rw [if_neg c84] at H
                have c84b0 : (t495 == t484) = false := beq_eq_false_iff_ne.mpr c84
                have c84b1 : (t495 != t484) = true := bne_iff_ne.mpr c84
                obtain rfl := Option.some.inj H
                go_wp2_with (first | ((with_reducible refine gate_callee (f := 16) rfl ?_); refine goesL_ (some 90) rfl rfl Try.func16 (by kernel_rfl) rfl #[.slice Ao66 t485.length co66, .int .i64 1] rfl (by (try simp only [List.map_toArray, List.map_cons, List.map_nil]); first | done | rfl | (simp only [List.length_drop, List.length_take]; rfl)) ?_; (with_reducible refine (laws_heldIntA2S.calls _ _ t485 1 t495 _ ?side1 ?side2 A82.out).mono ?_); (case side1 => repeat (first | exact (Kd.R_reads' HO_7.out).2.2 | (with_reducible refine Kd.C_alloc ?_ _) | (with_reducible refine Kd.C_drewN ?_ _) | (with_reducible refine Kd.C_drew ?_))); (case side2 => exact (Kd.R_reads' HO_7.out).2.1); rintro e w' ⟨rfl, ⟨nd, rfl⟩⟩; refine ⟨_, rfl, ?_⟩))
                go_ret
                exact ⟨by first | rfl | (simp [errW_none, errW_some] <;> rfl) | (simp [*, errW_none, errW_some] <;> rfl), by repeat (first | (with_reducible first | exact HB.out | apply below_alloc | apply pw_below_drewN | apply below_drew1 | refine below_set ?_ GE459.out | refine below_set ?_ GE471.out) | exact HB.out)⟩
          ·
           rw [if_neg c62] at H
           have c62b0 : (t486 == t484) = false := beq_eq_false_iff_ne.mpr c62
           have c62b1 : (t486 != t484) = true := bne_iff_ne.mpr c62
           obtain rfl := Option.some.inj H
           obtain ⟨Ao85, co85, eo85⟩ := Kd.R_slice HO_7.out
           subst eo85
           go_wp2_with (first | ((with_reducible refine gate_callee (f := 15) rfl ?_); refine goesL_ (some 64) rfl rfl Try.func15 (by kernel_rfl) rfl #[.slice Ao85 t472.length co85, .int .i64 1] rfl (by (try simp only [List.map_toArray, List.map_cons, List.map_nil]); first | done | rfl | (simp only [List.length_drop, List.length_take]; rfl)) ?_; (with_reducible refine (laws_markIntA2S.calls (fun k_ => some k_ = (.slice Ao85 t472.length co85 : Value).ownBlock) (.slice Ao85 t472.length co85) t472 1 t484 t485 w _ ?side1 ?side2 A57.out).mono ?_); (case side1 => repeat (first | (with_reducible first | exact HB.out | apply below_alloc | apply pw_below_drewN | apply below_drew1 | refine below_set ?_ GE459.out | refine below_set ?_ GE471.out) | exact HB.out)); (case side2 => exact Kd.R_tight rfl HO_7.out); rintro e w86 ⟨rfl, hy0, hb, hkp⟩; refine ⟨_, rfl, ?_⟩; have n0_ := Aside0.mk (Kd.R_mono (ok' := fun k_ => some k_ ≠ (.slice Ao85 t472.length co85 : Value).ownBlock) (Kd.R_keptB (HO_4.out) hkp (fun k_ hk_ hs_ => (hk_) hs_)) (fun k_ hk_ => hk_.1)); have n1_ := Aside0.mk (Kd.R_reok rfl hy0 (fun k_ e_ => HO_7.out.1 k_ e_)); have n2_ := Aside0.mk (Kd.R_mono (ok' := fun k_ => True) (Kd.R_keptB ((Kd.R_apart' HO_472000.out (Kd.R_typed HO_7.out) (by decide))) hkp (fun k_ hk_ hs_ => (hk_.2) hs_)) (fun k_ hk_ => trivial)); have n3_ := Aside0.mk (blk_kept (by (with_reducible repeat (first | refine blk_drewN ?_ _ | refine blk_drew ?_ | refine blk_alloc ?_ _)); exact BK459.out) hkp (fun hs_ => (fun e_ => (Kd.R_ne HO_7.out BK459.out (by decide)) e_) hs_)); have n4_ := Aside0.mk (blk_kept (by (with_reducible repeat (first | refine blk_drewN ?_ _ | refine blk_drew ?_ | refine blk_alloc ?_ _)); exact BK471.out) hkp (fun hs_ => (fun e_ => (Kd.R_ne HO_7.out BK471.out (by decide)) e_) hs_)); have n5_ := Aside0.mk (hb); clear HO_4; clear HO_7; clear HO_472000; clear BK459; clear BK471; clear HB; have HO_4 := n0_; have HO_7 := n1_; have HO_472000 := n2_; have BK459 := n3_; have BK471 := n4_; have HB := n5_; clear n0_ n1_ n2_ n3_ n4_ n5_; (try clear hb); (try clear hkp); (try clear hy0)) | ((with_reducible refine gate_callee (f := 16) rfl ?_); refine goesL_ (some 67) rfl rfl Try.func16 (by kernel_rfl) rfl #[.slice Ao85 t485.length co85, .int .i64 1] rfl (by (try simp only [List.map_toArray, List.map_cons, List.map_nil]); first | done | (rw [show t485.length = t472.length from (Kd.R_reads' HO_7.out).1.symm] <;> rfl) | rfl | (simp only [List.length_drop, List.length_take]; rfl)) ?_; (with_reducible refine (laws_heldIntA2S.calls _ _ t485 1 t486 _ ?side1 ?side2 A58.out).mono ?_); (case side1 => repeat (first | exact (Kd.R_reads' HO_7.out).2.2 | (with_reducible refine Kd.C_alloc ?_ _) | (with_reducible refine Kd.C_drewN ?_ _) | (with_reducible refine Kd.C_drew ?_))); (case side2 => rw [show t485.length = t472.length from (Kd.R_reads' HO_7.out).1.symm]; exact (Kd.R_reads' HO_7.out).2.1); rintro e w' ⟨rfl, ⟨nd, rfl⟩⟩; refine ⟨_, rfl, ?_⟩))
           go_ret
           exact ⟨by first | rfl | (simp [errW_none, errW_some] <;> rfl) | (simp [*, errW_none, errW_some] <;> rfl), by repeat (first | (with_reducible first | exact HB.out | apply below_alloc | apply pw_below_drewN | apply below_drew1 | refine below_set ?_ GE459.out | refine below_set ?_ GE471.out) | exact HB.out)⟩
     ·
      replace c37 := Bool.eq_false_iff.mpr c37
      subst c37
      have H1 : (some false) = some r := by rw [if_neg (show ¬ (false = true) by decide)] at H; exact H
      clear H
      have H := H1
      clear H1
      obtain rfl := Option.some.inj H
      try go_wp2
      have n0_ := Aside0.mk (Kd.R_drew HO_4.out)
      have n1_ := Aside0.mk (Kd.R_drew HO_7.out)
      have n2_ := Aside0.mk (Kd.R_drew HO_472000.out)
      have n3_ := Aside0.mk (blk_drew BK459.out)
      have n4_ := Aside0.mk (blk_drew BK471.out)
      have n5_ := Aside0.mk (below_drew1 HB.out)
      clear HO_4
      clear HO_7
      clear HO_472000
      clear BK459
      clear BK471
      clear HB
      have HO_4 := n0_
      have HO_7 := n1_
      have HO_472000 := n2_
      have BK459 := n3_
      have BK471 := n4_
      have HB := n5_
      clear n0_ n1_ n2_ n3_ n4_ n5_
      refine start_ (n := 5) (S := fun w' => w'.cell? ⟨gb471, 0, none⟩ = some (.slice Ao22 t468.length co22) ∧ w'.cell? ⟨gb459, 0, none⟩ = some (.slice A0_0 l0_0.length c0_0)) (ds := []) #[false, false, false, false, false] (by kernel_rfl) rfl rfl ⟨(blk_cell BK471.out 0).trans rfl, (blk_cell BK459.out 0).trans rfl⟩ (fun hHeld => ?_)
      generalize wc.drew = w87 at HO_4 HO_7 HO_472000 BK459 BK471 HB hHeld ⊢
      refine take_ (i := 0) (N := some 41) (v := ?_) (a' := ?_) #[true, false, false, false, false] rfl rfl (by kernel_rfl) (fun _ _ _ h => h) (Or.inl ⟨by rfl, ?_⟩) hHeld ?_ ?_
      rotate_left
      ·
       rintro w' ⟨s0, s1⟩
       go_simp
       with_reducible rfl
      rotate_left
      ·
       simp only [Act.put, List.setIfInBounds_toArray, List.set_cons_zero, List.set_cons_succ, i64_w, i32_w]
       rfl
      refine take_ (i := 1) (N := some 42) (v := ?_) (a' := ?_) #[true, true, false, false, false] rfl rfl (by kernel_rfl) (fun _ _ _ h => h) (Or.inl ⟨by rfl, ?_⟩) hHeld ?_ ?_
      rotate_left
      ·
       rintro w' ⟨s0, s1⟩
       go_simp
       with_reducible rfl
      rotate_left
      ·
       simp only [Act.put, List.setIfInBounds_toArray, List.set_cons_zero, List.set_cons_succ, i64_w, i32_w]
       rfl
      refine one_ (i := 2) (N := some 43) #[true, true, true, false, false] rfl rfl (by kernel_rfl) (by decide) (fun K hK => ?_)
      refine goes_ Try.func7 (by kernel_rfl) rfl #[.agg #[.slice A0_0 l0_0.length c0_0]] (by rfl) rfl rfl (by (try simp only [List.map_toArray, List.map_cons, List.map_nil]); first | done | rfl | (simp only [List.length_drop, List.length_take]; rfl)) ?_
      with_reducible refine (laws_toTrie.calls kj10 _ _ l0_0 t477 _ ?side1 ?side2 A35.out).mono ?_
      (case side1 => repeat (first | exact (Kd.C_below HR0_0.out HB.out) | (with_reducible refine Kd.C_alloc ?_ _) | (with_reducible refine Kd.C_drewN ?_ _) | (with_reducible refine Kd.C_drew ?_)))
      (case side2 => exact HC0_0.out)
      rintro e w88 ⟨v478, rfl, ho0, hb⟩
      refine ⟨_, rfl, ?_⟩
      have n0_ := Aside0.mk (Kd.R_below (by (with_reducible repeat (first | apply Kd.R_alloc | apply Kd.R_drewN | apply Kd.R_drew)); exact HO_4.out) hb)
      have n1_ := Aside0.mk (Kd.R_below (by (with_reducible repeat (first | apply Kd.R_alloc | apply Kd.R_drewN | apply Kd.R_drew)); exact HO_7.out) hb)
      have n2_ := Aside0.mk (Kd.R_elder' (by (with_reducible repeat (first | apply Kd.R_alloc | apply Kd.R_drewN | apply Kd.R_drew)); exact HO_472000.out) (Kd.R_base ho0) hb)
      have n3_ := Aside0.mk (Kd.R_lower (Kd.R_new' ho0 (Kd.R_lt (by (with_reducible repeat (first | apply Kd.R_alloc | apply Kd.R_drewN | apply Kd.R_drew)); exact HO_472000.out))) (below_size (by repeat (first | (with_reducible first | exact HB.out | apply below_alloc | apply pw_below_drewN | apply below_drew1 | refine below_set ?_ GE459.out | refine below_set ?_ GE471.out) | exact HB.out))))
      have n4_ := Aside0.mk (blk_below (g := gb459) (o := .cells #[.slice A0_0 l0_0.length c0_0] 24 (0, 0)) (by (with_reducible repeat (first | refine blk_drewN ?_ _ | refine blk_drew ?_ | refine blk_alloc ?_ _)); exact BK459.out) hb)
      have n5_ := Aside0.mk (blk_below (g := gb471) (o := .cells #[.slice Ao22 t468.length co22] 31 (0, 0)) (by (with_reducible repeat (first | refine blk_drewN ?_ _ | refine blk_drew ?_ | refine blk_alloc ?_ _)); exact BK471.out) hb)
      have n6_ := Aside0.mk (below_step (by repeat (first | (with_reducible first | exact HB.out | apply below_alloc | apply pw_below_drewN | apply below_drew1 | refine below_set ?_ GE459.out | refine below_set ?_ GE471.out) | exact HB.out)) hb)
      clear HO_4
      clear HO_7
      clear HO_472000
      clear BK459
      clear BK471
      clear HB
      have HO_4 := n0_
      have HO_7 := n1_
      have HO_472000 := n2_
      have HO479 := n3_
      have BK459 := n4_
      have BK471 := n5_
      have HB := n6_
      clear n0_ n1_ n2_ n3_ n4_ n5_ n6_
      (try clear hb)
      (try clear hb2)
      (try clear hk)
      (try clear hi)
      (try clear ho0)
      obtain ⟨Ao89, co89, eo89⟩ := Kd.R_slice HO479.out
      (first | subst eo89 | (injection eo89 with f1_ f2_ f3_; have f4_ := f1_.symm; have f5_ := f3_.symm; clear f1_ f2_ f3_; subst f4_; subst f5_))
      refine hK.out _ _ ⟨(blk_cell BK471.out 0).trans rfl, (blk_cell BK459.out 0).trans rfl⟩ (fun hHeld => ?_)
      clear hK K
      refine norm_ (a' := ?_) ?_ ?_
      rotate_left
      ·
       show Act.put _ (some 43) _ = _
       simp only [Act.put, List.setIfInBounds_toArray, List.set_cons_zero, List.set_cons_succ, i64_w, i32_w]
       rfl
      refine one_ (i := 3) (N := some 44) #[true, true, true, true, false] rfl rfl (by kernel_rfl) (by decide) (fun K hK => ?_)
      refine goes_ Try.func10 (by kernel_rfl) rfl #[.agg #[.slice Ao22 t468.length co22], .agg #[.slice Ao89 t477.length co89]] (by rfl) rfl rfl (by (try simp only [List.map_toArray, List.map_cons, List.map_nil]); first | done | rfl | (simp only [List.length_drop, List.length_take]; rfl)) ?_
      with_reducible refine (laws_eqTrie.calls kj10 _ _ t468 _ _ t477 false _ ?side1 ?side2 ?side3 ?side4 A36.out).mono ?_
      (case side1 => repeat (first | exact (Kd.R_reads' HO_472000.out).2.2 | (with_reducible refine Kd.C_alloc ?_ _) | (with_reducible refine Kd.C_drewN ?_ _) | (with_reducible refine Kd.C_drew ?_)))
      (case side2 => exact (Kd.R_reads' HO_472000.out).2.1)
      (case side3 => repeat (first | exact (Kd.R_reads' HO479.out).2.2 | (with_reducible refine Kd.C_alloc ?_ _) | (with_reducible refine Kd.C_drewN ?_ _) | (with_reducible refine Kd.C_drew ?_)))
      (case side4 => exact (Kd.R_reads' HO479.out).2.1)
      rintro e w90 ⟨rfl, hb⟩
      refine ⟨_, rfl, ?_⟩
      have n0_ := Aside0.mk (Kd.R_below (by (with_reducible repeat (first | apply Kd.R_alloc | apply Kd.R_drewN | apply Kd.R_drew)); exact HO_4.out) hb)
      have n1_ := Aside0.mk (Kd.R_below (by (with_reducible repeat (first | apply Kd.R_alloc | apply Kd.R_drewN | apply Kd.R_drew)); exact HO_7.out) hb)
      have n2_ := Aside0.mk (Kd.R_below (by (with_reducible repeat (first | apply Kd.R_alloc | apply Kd.R_drewN | apply Kd.R_drew)); exact HO_472000.out) hb)
      have n3_ := Aside0.mk (Kd.R_below (by (with_reducible repeat (first | apply Kd.R_alloc | apply Kd.R_drewN | apply Kd.R_drew)); exact HO479.out) hb)
      have n4_ := Aside0.mk (blk_below (g := gb459) (o := .cells #[.slice A0_0 l0_0.length c0_0] 24 (0, 0)) (by (with_reducible repeat (first | refine blk_drewN ?_ _ | refine blk_drew ?_ | refine blk_alloc ?_ _)); exact BK459.out) hb)
      have n5_ := Aside0.mk (blk_below (g := gb471) (o := .cells #[.slice Ao22 t468.length co22] 31 (0, 0)) (by (with_reducible repeat (first | refine blk_drewN ?_ _ | refine blk_drew ?_ | refine blk_alloc ?_ _)); exact BK471.out) hb)
      have n6_ := Aside0.mk (below_step (by repeat (first | (with_reducible first | exact HB.out | apply below_alloc | apply pw_below_drewN | apply below_drew1 | refine below_set ?_ GE459.out | refine below_set ?_ GE471.out) | exact HB.out)) hb)
      clear HO_4
      clear HO_7
      clear HO_472000
      clear HO479
      clear BK459
      clear BK471
      clear HB
      have HO_4 := n0_
      have HO_7 := n1_
      have HO_472000 := n2_
      have HO479 := n3_
      have BK459 := n4_
      have BK471 := n5_
      have HB := n6_
      clear n0_ n1_ n2_ n3_ n4_ n5_ n6_
      (try clear hb)
      (try clear hb2)
      (try clear hk)
      (try clear hi)
      refine hK.out _ _ ⟨(blk_cell BK471.out 0).trans rfl, (blk_cell BK459.out 0).trans rfl⟩ (fun hHeld => ?_)
      clear hK K
      refine norm_ (a' := ?_) ?_ ?_
      rotate_left
      ·
       show Act.put _ (some 44) _ = _
       simp only [Act.put, List.setIfInBounds_toArray, List.set_cons_zero, List.set_cons_succ, i64_w, i32_w]
       rfl
      refine pure_ (i := 4) (N := some 45) (v := ?_) (a' := ?_) #[true, true, true, true, true] rfl rfl (by kernel_rfl) (fun _ _ _ h => h) (Or.inl ⟨by rfl, ?_⟩) ?_ ?_
      rotate_left
      ·
       intro w'
       go_simp
       with_reducible rfl
      rotate_left
      ·
       simp only [Act.put, List.setIfInBounds_toArray, List.set_cons_zero, List.set_cons_succ, i64_w, i32_w]
       rfl
      refine done_ (by kernel_rfl) ?_
      try go_wp2
      go_ret
      exact ⟨by first | rfl | (simp [errW_none, errW_some] <;> rfl) | (simp [*, errW_none, errW_some] <;> rfl), by repeat (first | (with_reducible first | exact HB.out | apply below_alloc | apply pw_below_drewN | apply below_drew1 | refine below_set ?_ GE459.out | refine below_set ?_ GE471.out) | exact HB.out)⟩
def laws_FnExactNeighborPairs.Pure : Prop := ∀ (l0_0 : List S62), l0_0.length ≤ 9223372036854775807 → ∃ k, laws_FnExactNeighborPairs.f k l0_0 = some true
theorem laws_FnExactNeighborPairs.walk (P : laws_FnExactNeighborPairs.Pure) (w : World) (A0 : Option Addr) (c0 : Nat) (l0_0 : List S62) (hr0 : Kd.C k62 w A0 l0_0.length l0_0) (hc0 : l0_0.length ≤ c0) :
  Calls Try.prog 4 #[.agg #[.slice A0 l0_0.length c0]] w fun e w' => e = .returned (.bool true) ∧ Below w.heap.size w w' := by
 obtain ⟨k, h⟩ := P l0_0 hr0.2.1
 refine (laws_FnExactNeighborPairs.calls k _ _ l0_0 true w hr0 hc0 h).mono ?_
 rintro e w' ⟨rfl, hd⟩
 exact ⟨rfl, hd⟩
end Go.Proofs.Ytpgobnhklnglhaa.P
namespace Go.Proofs.Ytpgobnhklnglhaa.M
theorem txt_lt_snoc : ∀ (p : Txt) (x : UInt8), p < p ++ [x]
 | [], x => List.nil_lt_cons x []
 | a :: p, x => List.cons_lt_cons_iff.2 (.inr ⟨rfl, txt_lt_snoc p x⟩)
theorem dropLast_getD (p : Txt) (h : p ≠ []) : p.dropLast ++ [p.getD (p.length - 1) 0] = p := by
 have h0 := List.length_pos_iff.2 h
 have h1 : p.length - 1 < p.length := by omega
 rw [List.dropLast_eq_take, getD_lt 0 h1, ← List.take_succ_eq_append_getElem h1, List.take_of_length_le (by omega)]
theorem txt_dropLast_lt (p : Txt) (h : p ≠ []) : p.dropLast < p := by
 have := txt_lt_snoc p.dropLast (p.getD (p.length - 1) 0)
 rwa [dropLast_getD p h] at this
def Clo (P : List Txt) : Prop := [] ∈ P ∧ ∀ p ∈ P, p ≠ [] → p.dropLast ∈ P
def begs (w : Txt) : List Txt := (List.range w.length).map fun n => w.take (n + 1)
def preL (ws : List Txt) : List Txt := setL ([] :: ws.flatMap begs)
theorem mem_begs {w p : Txt} : p ∈ begs w ↔ p ≠ [] ∧ p <+: w := by
 constructor
 ·
  intro h
  obtain ⟨n, hn, rfl⟩ := List.mem_map.1 h
  rw [List.mem_range] at hn
  exact ⟨fun e => by have := congrArg List.length e; rw [List.length_take, List.length_nil] at this; omega, List.take_prefix _ _⟩
 ·
  rintro ⟨h1, h2⟩
  have h3 := h2.length_le
  have h4 := List.length_pos_iff.2 h1
  refine List.mem_map.2 ⟨p.length - 1, List.mem_range.2 (by omega), ?_⟩
  rw [show p.length - 1 + 1 = p.length from by omega]
  exact (List.prefix_iff_eq_take.1 h2).symm
theorem mem_preL {ws : List Txt} {p : Txt} : p ∈ preL ws ↔ p = [] ∨ ∃ w ∈ ws, p ≠ [] ∧ p <+: w := by
 unfold preL
 rw [mem_setL, List.mem_cons, List.mem_flatMap]
 simp only [mem_begs]
theorem clo_preL (ws : List Txt) : Clo (preL ws) := by
 refine ⟨mem_preL.2 (.inl rfl), fun p hp hne => ?_⟩
 rcases mem_preL.1 hp with rfl | ⟨w, hw, _, h⟩
 ·
  exact absurd rfl hne
 ·
  by_cases h0 : p.dropLast = []
  ·
   rw [h0]; exact mem_preL.2 (.inl rfl)
  ·
   exact mem_preL.2 (.inr ⟨w, hw, h0, (List.dropLast_prefix p).trans h⟩)
theorem asc_preL (ws : List Txt) : Asc (preL ws) := asc_setL _
theorem self_preL {ws : List Txt} {w : Txt} (h : w ∈ ws) : w ∈ preL ws := by
 by_cases h0 : w = []
 ·
  rw [h0]; exact mem_preL.2 (.inl rfl)
 ·
  exact mem_preL.2 (.inr ⟨w, h, h0, List.prefix_refl _⟩)
theorem preL_congr {ws vs : List Txt} (h : ∀ w, w ∈ ws ↔ w ∈ vs) : preL ws = preL vs :=
 asc_ext _ _ (asc_preL _) (asc_preL _) fun y => by rw [mem_preL, mem_preL]; simp only [h]
theorem foldl_putL_len : ∀ (l acc : List Txt), (l.foldl putL acc).length ≤ acc.length + l.length
 | [], _ => Nat.le_refl _
 | x :: l, acc => by
  have h1 := foldl_putL_len l (putL acc x)
  have h2 := putL_length_le acc x
  rw [List.foldl_cons, List.length_cons]; omega
theorem setL_length_le (l : List Txt) : (setL l).length ≤ l.length := by have := foldl_putL_len l []; simpa [setL] using this
theorem begs_length (w : Txt) : (begs w).length = w.length := by simp [begs]
theorem flatMap_begs_length : ∀ (ws : List Txt), (∀ w ∈ ws, w.length ≤ 12) → (ws.flatMap begs).length ≤ 12 * ws.length
 | [], _ => by simp
 | w :: ws, h => by
  have h1 := flatMap_begs_length ws fun x hx => h x (List.mem_cons_of_mem _ hx)
  have h2 := h w (by simp)
  rw [List.flatMap_cons, List.length_append, begs_length, List.length_cons]; omega
theorem preL_length {ws : List Txt} (h : ∀ w ∈ ws, w.length ≤ 12) : (preL ws).length ≤ 12 * ws.length + 1 := by
 have h1 := flatMap_begs_length ws h
 have h2 := setL_length_le ([] :: ws.flatMap begs)
 unfold preL
 rw [List.length_cons] at h2
 omega
def placeL : List Txt → Txt → Nat
 | [], _ => 0
 | x :: r, p => if x = p then 0 else placeL r p + 1
theorem placeL_le : ∀ (P : List Txt) (p : Txt), placeL P p ≤ P.length
 | [], _ => Nat.le_refl _
 | x :: r, p => by
  have := placeL_le r p
  by_cases h : x = p
  ·
   simp [placeL, h]
  ·
   simp only [placeL, if_neg h, List.length_cons]; omega
theorem placeL_mem : ∀ {P : List Txt} {p : Txt}, p ∈ P → placeL P p < P.length ∧ P.getD (placeL P p) [] = p
 | [], _, h => by simp at h
 | x :: r, p, h => by
  by_cases h0 : x = p
  ·
   simp [placeL, h0]
  ·
   have h1 : p ∈ r := by
    rcases List.mem_cons.1 h with e | e
    ·
     exact absurd e.symm h0
    ·
     exact e
   obtain ⟨h2, h3⟩ := placeL_mem h1
   simp only [placeL, if_neg h0, List.length_cons]
   exact ⟨by omega, by simpa using h3⟩
theorem getD_mem {P : List Txt} {i : Nat} (h : i < P.length) : P.getD i [] ∈ P := by rw [getD_lt [] h]; exact List.getElem_mem h
theorem asc_get {P : List Txt} (hA : Asc P) {i j : Nat} (hj : j < P.length) (hij : i < j) : P.getD i [] < P.getD j [] := by
 have := List.pairwise_iff_getElem.1 hA i j (by omega) hj hij
 rwa [getD_lt [] hj, getD_lt [] (show i < P.length by omega)]
theorem asc_get_lt {P : List Txt} (hA : Asc P) {i j : Nat} (hi : i < P.length) (hj : j < P.length) (h : P.getD i [] < P.getD j []) : i < j := by
 rcases Nat.lt_trichotomy i j with h1 | h1 | h1
 ·
  exact h1
 ·
  subst h1; exact absurd h (txt_irrefl _)
 ·
  exact absurd (asc_get hA hi h1) (txt_asymm h)
theorem asc_inj {P : List Txt} (hA : Asc P) {i j : Nat} (hi : i < P.length) (hj : j < P.length) (h : P.getD i [] = P.getD j []) : i = j := by
 rcases Nat.lt_trichotomy i j with h1 | h1 | h1
 ·
  exact absurd (h ▸ asc_get hA hj h1) (txt_irrefl _)
 ·
  exact h1
 ·
  exact absurd (h ▸ asc_get hA hi h1) (txt_irrefl _)
theorem placeL_get {P : List Txt} (hA : Asc P) {i : Nat} (hi : i < P.length) : placeL P (P.getD i []) = i := by
 obtain ⟨h1, h2⟩ := placeL_mem (getD_mem hi)
 exact asc_inj hA h1 hi h2
theorem clo_zero {P : List Txt} (hA : Asc P) (hC : Clo P) : 0 < P.length ∧ P.getD 0 [] = [] := by
 obtain ⟨h1, h2⟩ := placeL_mem hC.1
 refine ⟨by omega, ?_⟩
 rcases Nat.eq_zero_or_pos (placeL P []) with h0 | h0
 ·
  rwa [h0] at h2
 ·
  have := asc_get hA h1 h0
  rw [h2] at this
  exact absurd this (List.not_lt_nil _)
theorem clo_pos {P : List Txt} (hA : Asc P) (hC : Clo P) {i : Nat} (hi : i < P.length) (h0 : 0 < i) : P.getD i [] ≠ [] := fun e => by
 obtain ⟨h1, h2⟩ := clo_zero hA hC
 have := asc_inj hA hi h1 (e.trans h2.symm)
 omega
theorem clo_parent {P : List Txt} (hA : Asc P) (hC : Clo P) {i : Nat} (hi : i < P.length) (h0 : 0 < i) :
  placeL P (P.getD i []).dropLast < i ∧ P.getD (placeL P (P.getD i []).dropLast) [] = (P.getD i []).dropLast := by
 have hne := clo_pos hA hC hi h0
 obtain ⟨h1, h2⟩ := placeL_mem (hC.2 _ (getD_mem hi) hne)
 exact ⟨asc_get_lt hA h1 hi (by rw [h2]; exact txt_dropLast_lt _ hne), h2⟩
def ltrOf (p : Txt) : Int := (((p.getD (p.length - 1) 0).toNat : Int) - 97) % 256
def ndL (P ws : List Txt) (p : Txt) : Int × Int × Bool := (if p = [] then -1 else ltrOf p, if p = [] then -1 else (placeL P p.dropLast : Int), decide (p ∈ ws))
def nodesL (P ws : List Txt) : List (Int × Int × Bool) := P.map (ndL P ws)
def wordL (w : Txt) : Bool := w.all letterB && decide (w.length ≤ 12)
structure OkW (ws : List Txt) : Prop where
 asc : Asc ws
 len : ws.length ≤ 40
 word : ∀ w ∈ ws, wordL w = true
theorem wordL_iff {w : Txt} : wordL w = true ↔ (∀ c ∈ w, letterB c = true) ∧ w.length ≤ 12 := by
 unfold wordL
 rw [Bool.and_eq_true, List.all_eq_true, decide_eq_true_eq]
theorem OkW.le {ws : List Txt} (h : OkW ws) : ∀ w ∈ ws, w.length ≤ 12 := fun w hw => (wordL_iff.1 (h.word w hw)).2
theorem OkW.pre {ws : List Txt} (h : OkW ws) : (preL ws).length ≤ 481 := by
 have h1 := preL_length h.le
 have h2 := h.len
 omega
theorem wordL_pre {p w : Txt} (h : p <+: w) (hw : wordL w = true) : wordL p = true := by
 obtain ⟨h1, h2⟩ := wordL_iff.1 hw
 exact wordL_iff.2 ⟨fun c hc => h1 c (h.subset hc), Nat.le_trans h.length_le h2⟩
theorem preL_word {ws : List Txt} (h : ∀ w ∈ ws, wordL w = true) {p : Txt} (hp : p ∈ preL ws) : wordL p = true := by
 rcases mem_preL.1 hp with rfl | ⟨w, hw, _, h1⟩
 ·
  rfl
 ·
  exact wordL_pre h1 (h w hw)
theorem letter_bd {c : UInt8} (h : letterB c = true) : 97 ≤ c.toNat ∧ c.toNat ≤ 122 := by simpa [letterB] using h
theorem getLast_mem {p : Txt} (h : p ≠ []) : p.getD (p.length - 1) 0 ∈ p := by
 have := List.length_pos_iff.2 h
 rw [getD_lt 0 (show p.length - 1 < p.length by omega)]
 exact List.getElem_mem _
theorem ltrOf_bd {p : Txt} (hw : wordL p = true) (h : p ≠ []) : ltrOf p = ((p.getD (p.length - 1) 0).toNat : Int) - 97 ∧ 0 ≤ ltrOf p ∧ ltrOf p ≤ 25 := by
 have h1 := letter_bd ((wordL_iff.1 hw).1 _ (getLast_mem h))
 unfold ltrOf
 omega
theorem filter_preL {ws : List Txt} (h : Asc ws) : (preL ws).filter (fun p => decide (p ∈ ws)) = ws := by
 refine asc_ext _ _ ((asc_preL ws).filter _) h fun y => ?_
 rw [List.mem_filter, decide_eq_true_eq]
 exact ⟨fun h => h.2, fun h => ⟨self_preL h, h⟩⟩
end Go.Proofs.Ytpgobnhklnglhaa.M
namespace Go.Proofs.Ytpgobnhklnglhaa.M
open Go.RowKit Go.Proofs.YtpgobnhklnglhaaW.PrintWords
theorem rdB (l : List Txt) (n : Nat) (h : n < l.length) : rdOf ByteArray.empty (l.map B) (n : Int) = B (l.getD n []) := by
 simp [rdOf, List.getD_eq_getElem?_getD, h]
theorem exBs (l : List ByteArray) : ∃ m : List Txt, l = m.map B := ⟨l.map fun x => x.data.toList, by rw [List.map_map]; exact ((List.map_congr_left (fun x _ => B_data x)).trans (List.map_id _)).symm⟩
theorem map_B_inj {l m : List Txt} (h : l.map B = m.map B) : l = m := (List.map_inj_right (fun _ _ h => B_inj h)).1 h
end Go.Proofs.Ytpgobnhklnglhaa.M
namespace Go.Proofs.Ytpgobnhklnglhaa.M
open Go.Lib
theorem keeps_iff (d : Array Txt) (j : Nat) : keeps d j = true ↔ (j = 0 ∨ d[j]! ≠ d[j - 1]!) := by simp [keeps]
theorem mem_compact (zs : List Txt) (y : Txt) : y ∈ compact zs ↔ y ∈ zs := by
 unfold compact compactUpTo
 simp only [List.mem_map, List.mem_filter, List.mem_range]
 constructor
 ·
  rintro ⟨j, ⟨hj, _⟩, rfl⟩
  rw [getElem!_pos zs.toArray j (by simpa using hj)]
  simp
 ·
  intro hy
  have hex : ∃ n, ∃ h : n < zs.length, zs[n] = y := by
   obtain ⟨n, h, e⟩ := List.mem_iff_getElem.1 hy
   exact ⟨n, h, e⟩
  have key : ∀ n, (∃ h : n < zs.length, zs[n] = y) → ∃ m, m < zs.length ∧ keeps zs.toArray m = true ∧ zs.toArray[m]! = y := by
   intro n
   induction n with
   | zero => rintro ⟨h, e⟩; exact ⟨0, h, (keeps_iff _ _).2 (.inl rfl), by rw [getElem!_pos zs.toArray 0 (by simpa using h)]; simpa using e⟩
   | succ n ih =>
    rintro ⟨h, e⟩
    have e1 : zs.toArray[n + 1]! = y := by rw [getElem!_pos zs.toArray (n + 1) (by simpa using h)]; simpa using e
    by_cases hk : keeps zs.toArray (n + 1) = true
    ·
     exact ⟨n + 1, h, hk, e1⟩
    ·
     have : zs.toArray[n + 1]! = zs.toArray[n]! := by
      by_cases h9 : zs.toArray[n + 1]! = zs.toArray[n]!
      ·
       exact h9
      ·
       exact absurd ((keeps_iff _ _).2 (.inr h9)) hk
     refine ih ⟨by omega, ?_⟩
     have h2 : zs.toArray[n]! = zs[n] := by rw [getElem!_pos zs.toArray n (by simp; omega)]; simp
     rw [← h2, ← this, e1]
  obtain ⟨n, h⟩ := hex
  obtain ⟨m, h1, h2, h3⟩ := key n h
  exact ⟨m, ⟨h1, h2⟩, h3⟩
theorem pair_get {zs : List Txt} (h : zs.Pairwise (fun a b => decide (a ≤ b) = true)) {i j : Nat} (hij : i < j) (hj : j < zs.length) : zs.toArray[i]! ≤ zs.toArray[j]! := by
 have := List.pairwise_iff_getElem.1 h i j (by omega) hj hij
 rw [getElem!_pos zs.toArray i (by simp; omega), getElem!_pos zs.toArray j (by simpa using hj)]
 simpa using this
theorem asc_compact {zs : List Txt} (h : zs.Pairwise (fun a b => decide (a ≤ b) = true)) : Asc (compact zs) := by
 unfold Asc compact compactUpTo
 rw [List.pairwise_map]
 have h1 : ((List.range zs.length).filter (keeps zs.toArray)).Pairwise (· < ·) := List.Pairwise.filter _ List.pairwise_lt_range
 refine List.Pairwise.imp_of_mem ?_ h1
 intro a b ha hb hab
 rw [List.mem_filter, List.mem_range] at ha hb
 have hk := (keeps_iff _ _).1 hb.2
 have hne : zs.toArray[b]! ≠ zs.toArray[b - 1]! := by
  rcases hk with h0 | h0
  ·
   omega
  ·
   exact h0
 have h2 : zs.toArray[b - 1]! ≤ zs.toArray[b]! := pair_get h (by omega) hb.1
 have h3 : zs.toArray[a]! ≤ zs.toArray[b - 1]! := by
  by_cases e : a = b - 1
  ·
   subst e; exact List.le_refl _
  ·
   exact pair_get h (by omega) (by omega)
 have h4 : zs.toArray[b - 1]! < zs.toArray[b]! := by
  by_cases hlt : zs.toArray[b - 1]! < zs.toArray[b]!
  ·
   exact hlt
  ·
   exact absurd (List.le_antisymm (List.not_lt.1 hlt) h2) hne
 exact List.lt_of_le_of_lt h3 h4
theorem sorted_compact (l : List Txt) : compact (l.mergeSort fun x y => decide (x ≤ y)) = setL l := by
 have hp : (l.mergeSort fun x y => decide (x ≤ y)).Pairwise (fun a b => decide (a ≤ b) = true) := by
  refine List.pairwise_mergeSort ?_ ?_ l
  ·
   intro a b c h1 h2
   simp only [decide_eq_true_eq] at h1 h2 ⊢
   exact List.le_trans h1 h2
  ·
   intro a b
   simp only [Bool.or_eq_true, decide_eq_true_eq]
   exact List.le_total a b
 refine asc_ext _ _ (asc_compact hp) (asc_setL l) fun y => ?_
 rw [mem_compact, List.mem_mergeSort, mem_setL]
end Go.Proofs.Ytpgobnhklnglhaa.M
namespace Go.Proofs.Ytpgobnhklnglhaa.L
open Go.RowKit Go.Proofs.Ytpgobnhklnglhaa.P Go.Proofs.Ytpgobnhklnglhaa.M Go.Proofs.YtpgobnhklnglhaaW.PrintWords Go.Proofs.YtpgobnhklnglhaaW.PrintLast Go.Proofs.YtpgobnhklnglhaaW.PrintMore
set_option linter.unusedVariables false
theorem map_data (l : List Txt) : (l.map B).map (fun x => x.data.toList) = l := by
 rw [List.map_map]
 exact (List.map_congr_left (fun x _ => data_B x)).trans (List.map_id _)
theorem l2Put_eq (l : List Txt) (w : Txt) (h : l.length ≤ 4294967296) (h2 : ∀ x ∈ l, x.length ≤ 4611686018427387900) : spec_l2Put.f (l.map B) (B w) = some ((putL l w).map B) := by
 have hall : ((l.map B).all fun x => decide (x.size ≤ 4611686018427387900)) = true := List.all_eq_true.2 fun x hx => by
  obtain ⟨y, hy, rfl⟩ := List.mem_map.1 hx
  simpa using h2 y hy
 unfold spec_l2Put.f
 rw [map_data, data_B, if_pos ⟨by simpa using h, hall⟩]
theorem set_eq (l : List Txt) (h : l.length ≤ 4294967296) : impl_set.f (l.map B) = some ((setL l).map B) := by
 unfold impl_set.f
 rw [if_pos (by simpa using h), map_data, sorted_compact]
 rfl
theorem l1In_eq (a b c : Int) : spec_l1In.f a b c = some (decide (b ≤ a ∧ a ≤ c)) := by
 unfold spec_l1In.f
 by_cases h : b ≤ a
 ·
  rw [if_pos (by omega)]; simp [h]
 ·
  rw [if_neg (by omega)]; simp [h]
instance : DecidableEq S58 := fun a b => if h : a.f0 = b.f0 ∧ a.f1 = b.f1 ∧ a.f2 = b.f2 then isTrue (by obtain ⟨a0, a1, a2⟩ := a; obtain ⟨b0, b1, b2⟩ := b; obtain ⟨h1, h2, h3⟩ := h; simp only at h1 h2 h3; subst h1 h2 h3; rfl) else isFalse (fun e => h (by rw [e]; exact ⟨rfl, rfl, rfl⟩))
def mkN (x : Int × Int × Bool) : S58 := ⟨x.1, x.2.1, x.2.2⟩
def trN (P ws : List Txt) : List S58 := (nodesL P ws).map mkN
theorem trN_length (P ws : List Txt) : (trN P ws).length = P.length := by simp [trN, nodesL]
theorem rdN (P ws : List Txt) (i : Nat) (h : i < P.length) : rd_T58 (trN P ws) (i : Int) = mkN (ndL P ws (P.getD i [])) := by
 unfold rd_T58 trN nodesL
 rw [Int.toNat_natCast, getD_lt _ (by simpa using h), getD_lt _ h]
 simp
theorem strOfNums_B (n : Int) : strOfNums [n] = B [UInt8.ofNat n.toNat] := rfl
theorem letter_back {p : Txt} (hw : wordL p = true) (h : p ≠ []) : strOfNums [(wrap64 (97 + ltrOf p)) % 256] = B [p.getD (p.length - 1) 0] := by
 obtain ⟨h1, h2, h3⟩ := ltrOf_bd hw h
 have h4 := letter_bd ((wordL_iff.1 hw).1 _ (getLast_mem h))
 rw [strOfNums_B]
 congr 2
 have e : (wrap64 (97 + ltrOf p) % 256).toNat = (p.getD (p.length - 1) 0).toNat := by rw [wrap64_id (by omega) (by omega)]; omega
 rw [e]
 simp
theorem l2Word_loop (l : Txt) (hl : l.length ≤ 4611686018427387903) : ∀ (d n : Nat), n + d = l.length → Ev (fun k => spec_l2Word.l0 k (B l) (n : Int)) ((l.drop n).all letterB && decide (l.length ≤ 12)) := by
 have last : ∀ n : Nat, Ev (fun k => spec_l2Word.j1 k (B l) (n : Int) false) (decide (l.length ≤ 12)) := by
  intro n
  refine Ev.step (fun k => spec_l2Word.j1.eq_2 ..) (Ev.ifF (by simp) ?_)
  have : decide (((B l).size : Int) ≤ 12) = decide (l.length ≤ 12) := by simp; omega
  rw [this]; exact Ev.now _
 intro d
 induction d with
 | zero =>
  intro n hn
  refine Ev.step (fun k => spec_l2Word.l0.eq_2 ..) (Ev.ifF (by simp; omega) ?_)
  rw [List.drop_of_length_le (by omega)]; simpa using last n
 | succ d ih =>
  intro n hn
  have h1 : n < l.length := by omega
  refine Ev.step (fun k => spec_l2Word.l0.eq_2 ..) (Ev.ifT (by simp; omega) ?_)
  rw [drop_cons_getD 0 h1]
  by_cases h16 : n ≤ 12
  ·
   rw [show decide ((n : Int) ≤ 12) = true from by simp; omega]
   refine Ev.step (fun k => spec_l2Word.j1.eq_2 ..) (Ev.ifT rfl (Ev.ifT (by omega) (Ev.ifT (by simp; omega) ?_)))
   simp only [bt_B l n h1]
   by_cases ha : ((l.getD n 0).toNat : Int) < 97
   ·
    refine Ev.ifT ha ?_
    have : letterB (l.getD n 0) = false := by simp only [letterB, decide_eq_false_iff_not]; omega
    simpa only [List.all_cons, this, Bool.false_and] using Ev.now false
   refine Ev.ifF ha ?_
   by_cases hz : ((l.getD n 0).toNat : Int) > 122
   ·
    refine Ev.ifT hz ?_
    have : letterB (l.getD n 0) = false := by simp only [letterB, decide_eq_false_iff_not]; omega
    simpa only [List.all_cons, this, Bool.false_and] using Ev.now false
   refine Ev.ifF hz ?_
   have : letterB (l.getD n 0) = true := by simp only [letterB, decide_eq_true_eq]; omega
   simpa only [wrap64_succ n (by omega), List.all_cons, this, Bool.true_and] using ih (n + 1) (by omega)
  ·
   rw [show decide ((n : Int) ≤ 12) = false from by simp; omega]
   have : ((l.getD n 0 :: l.drop (n + 1)).all letterB && decide (l.length ≤ 12)) = decide (l.length ≤ 12) := by
    have : decide (l.length ≤ 12) = false := by simp; omega
    rw [this]; simp
   rw [this]; exact last n
theorem l2Word_ev (l : Txt) (hl : l.length ≤ 4611686018427387903) : Ev (fun k => spec_l2Word.f k (B l)) (wordL l) := by
 simpa [spec_l2Word.f, wordL] using l2Word_loop l hl l.length 0 (by omega)
theorem l2Prefix_last (x1 : Int) (s : Txt) (N : List S58) : Ev (fun k => spec_l2Prefix.j1 k x1 (B s) false N) (if x1 = 0 then B s else B [63]) := by
 refine Ev.step (fun k => spec_l2Prefix.j1.eq_2 ..) (Ev.ifF (by simp) ?_)
 by_cases h : x1 = 0
 ·
  have e : (if x1 = 0 then B s else B [63]) = B s := if_pos h
  rw [e]; exact Ev.ifT h (Ev.now _)
 ·
  have e : (if x1 = 0 then B s else B [63]) = B [63] := if_neg h
  rw [e]; exact Ev.ifF h (Ev.now _)
theorem l2Prefix_ex (N : List S58) : ∀ (d : Nat) (x1 : Int) (s : Txt), x1.toNat ≤ d → x1 < N.length → s.length ≤ 13 → ∃ r : Txt, r.length ≤ 13 ∧ Ev (fun k => spec_l2Prefix.l0 k x1 (B s) N) (B r) := by
 have low : ∀ (x1 : Int) (s : Txt), x1 ≤ 0 → s.length ≤ 13 → ∃ r : Txt, r.length ≤ 13 ∧ Ev (fun k => spec_l2Prefix.l0 k x1 (B s) N) (B r) := by
  intro x1 s h1 h2
  have hl := l2Prefix_last x1 s N
  by_cases h : x1 = 0
  ·
   rw [if_pos h] at hl; exact ⟨s, h2, Ev.step (fun k => spec_l2Prefix.l0.eq_2 ..) (Ev.ifF (by omega) hl)⟩
  ·
   rw [if_neg h] at hl; exact ⟨[63], by simp, Ev.step (fun k => spec_l2Prefix.l0.eq_2 ..) (Ev.ifF (by omega) hl)⟩
 intro d
 induction d with
 | zero => intro x1 s h1 h2 h3; exact low x1 s (by omega) h3
 | succ d ih =>
  intro x1 s h1 h2 h3
  by_cases hp : x1 ≤ 0
  ·
   exact low x1 s hp h3
  by_cases h12 : s.length ≤ 12
  ·
   have hd : decide (((B s).size : Int) ≤ 12) = true := by simp; omega
   by_cases hin : (0 : Int) ≤ (rd_T58 N x1).f0 ∧ (rd_T58 N x1).f0 ≤ 25
   ·
    by_cases hpar : (rd_T58 N x1).f1 ≥ x1
    ·
     refine ⟨[63], by simp, Ev.step (fun k => spec_l2Prefix.l0.eq_2 ..) (Ev.ifT (by omega) ?_)⟩
     rw [hd]
     refine Ev.step (fun k => spec_l2Prefix.j1.eq_2 ..) (Ev.ifT rfl (Ev.ifT (by omega) (Ev.ifT h2 ?_)))
     rw [l1In_eq, decide_eq_true hin]
     exact Ev.some_bind (Ev.ifT rfl (Ev.ifT hpar (Ev.now _)))
    ·
     obtain ⟨r, hr, he⟩ := ih (rd_T58 N x1).f1 (UInt8.ofNat ((wrap64 (97 + (rd_T58 N x1).f0)) % 256).toNat :: s) (by omega) (by omega) (by simp; omega)
     refine ⟨r, hr, Ev.step (fun k => spec_l2Prefix.l0.eq_2 ..) (Ev.ifT (by omega) ?_)⟩
     rw [hd]
     refine Ev.step (fun k => spec_l2Prefix.j1.eq_2 ..) (Ev.ifT rfl (Ev.ifT (by omega) (Ev.ifT h2 ?_)))
     rw [l1In_eq, decide_eq_true hin]
     refine Ev.some_bind (Ev.ifT rfl (Ev.ifF hpar (Ev.some_bind ?_)))
     rw [strOfNums_B, append_B]
     exact Ev.ifT (by simp; omega) he
   ·
    refine ⟨[63], by simp, Ev.step (fun k => spec_l2Prefix.l0.eq_2 ..) (Ev.ifT (by omega) ?_)⟩
    rw [hd]
    refine Ev.step (fun k => spec_l2Prefix.j1.eq_2 ..) (Ev.ifT rfl (Ev.ifT (by omega) (Ev.ifT h2 ?_)))
    rw [l1In_eq, decide_eq_false hin]
    exact Ev.some_bind (Ev.ifF (by simp) (Ev.now _))
  ·
   have hd : decide (((B s).size : Int) ≤ 12) = false := by simp; omega
   refine ⟨[63], by simp, Ev.step (fun k => spec_l2Prefix.l0.eq_2 ..) (Ev.ifT (by omega) ?_)⟩
   rw [hd]
   have hl := l2Prefix_last x1 s N
   rwa [if_neg (by omega)] at hl
theorem l2Prefix_up {P : List Txt} (ws : List Txt) (hA : Asc P) (hC : Clo P) (hW : ∀ p ∈ P, wordL p = true) : ∀ (n : Nat) (p s : Txt), p.length = n → p ∈ P → (p ++ s).length ≤ 12 → Ev (fun k => spec_l2Prefix.l0 k (placeL P p : Int) (B s) (trN P ws)) (B (p ++ s)) := by
 intro n
 induction n with
 | zero =>
  intro p s h1 h2 h3
  have hp : p = [] := List.eq_nil_of_length_eq_zero h1
  subst hp
  obtain ⟨z1, z2⟩ := clo_zero hA hC
  have hz : placeL P [] = 0 := by have := placeL_get hA z1; rwa [z2] at this
  rw [hz]
  have hl := l2Prefix_last ((0 : Nat) : Int) s (trN P ws)
  exact Ev.step (fun k => spec_l2Prefix.l0.eq_2 ..) (Ev.ifF (by simp) (by simpa using hl))
 | succ n ih =>
  intro p s h1 h2 h3
  have hne : p ≠ [] := fun e => by rw [e] at h1; simp at h1
  obtain ⟨i1, i2⟩ := placeL_mem h2
  have i3 : 0 < placeL P p := by
   rcases Nat.eq_zero_or_pos (placeL P p) with h0 | h0
   ·
    rw [h0, (clo_zero hA hC).2] at i2; exact absurd i2.symm hne
   ·
    exact h0
  obtain ⟨j1, j2⟩ := clo_parent hA hC i1 i3
  rw [i2] at j1 j2
  have hsl : s.length ≤ 12 := by rw [List.length_append] at h3; omega
  have hd : decide (((B s).size : Int) ≤ 12) = true := by simp; omega
  have hf : rd_T58 (trN P ws) (placeL P p : Int) = ⟨ltrOf p, (placeL P p.dropLast : Int), decide (p ∈ ws)⟩ := by
   rw [rdN P ws _ i1, i2]; unfold mkN ndL; rw [if_neg hne, if_neg hne]
  obtain ⟨_, b1, b2⟩ := ltrOf_bd (hW p h2) hne
  refine Ev.step (fun k => spec_l2Prefix.l0.eq_2 ..) (Ev.ifT (by omega) ?_)
  rw [hd]
  refine Ev.step (fun k => spec_l2Prefix.j1.eq_2 ..) (Ev.ifT rfl (Ev.ifT (by omega) (Ev.ifT (by rw [trN_length]; omega) ?_)))
  rw [hf, l1In_eq, decide_eq_true ⟨b1, b2⟩]
  refine Ev.some_bind (Ev.ifT rfl (Ev.ifF (by show ¬ ((placeL P p.dropLast : Nat) : Int) ≥ ((placeL P p : Nat) : Int); omega) (Ev.some_bind ?_)))
  rw [letter_back (hW p h2) hne, append_B]
  have hpd : p.dropLast.length = n := by rw [List.length_dropLast]; omega
  have e1 : p.dropLast ++ ([p.getD (p.length - 1) 0] ++ s) = p ++ s := by rw [← List.append_assoc, dropLast_getD p hne]
  refine Ev.ifT (by simp; omega) ?_
  have := ih p.dropLast ([p.getD (p.length - 1) 0] ++ s) hpd (hC.2 p h2 hne) (by rw [e1]; exact h3)
  rwa [e1] at this
theorem l2Prefix_ev {P : List Txt} (ws : List Txt) (hA : Asc P) (hC : Clo P) (hW : ∀ p ∈ P, wordL p = true) (i : Nat) (hi : i < P.length) : Ev (fun k => spec_l2Prefix.f k (trN P ws) (i : Int)) (B (P.getD i [])) := by
 have hm := getD_mem hi
 have := l2Prefix_up ws hA hC hW _ (P.getD i []) [] rfl hm (by rw [List.append_nil]; exact (wordL_iff.1 (hW _ hm)).2)
 rw [placeL_get hA hi, List.append_nil] at this
 exact this
def setR : List Txt → List Txt → List ByteArray × Bool
 | [], acc => (acc.map B, decide (acc.length ≤ 40))
 | w :: r, acc => if wordL w = true then setR r (putL acc w) else ([], false)
theorem setR_eq : ∀ (l acc : List Txt), setR l acc = if l.all wordL = true then ((l.foldl putL acc).map B, decide ((l.foldl putL acc).length ≤ 40)) else ([], false)
 | [], acc => rfl
 | w :: r, acc => by
  unfold setR
  rw [setR_eq r (putL acc w), List.all_cons, List.foldl_cons]
  cases h : wordL w with
  | false => rw [if_neg Bool.false_ne_true, if_neg (by rw [Bool.false_and]; exact Bool.false_ne_true)]
  | true => rw [if_pos rfl, Bool.true_and]
theorem l2Set_loop {b : Nat} (hb : b ≤ 1000000) (ws : List Txt) (hl : ws.length ≤ 2147483648) (hw : ∀ w ∈ ws, w.length ≤ b) : ∀ (d i : Nat) (acc : List Txt), i + d = ws.length → acc.length ≤ i → (∀ w ∈ acc, w.length ≤ b) →
  Ev (fun k => spec_l2Set.l0 k (ws.map B) (acc.map B) (i : Int)) (setR (ws.drop i) acc) := by
 intro d
 induction d with
 | zero =>
  intro i acc h1 h2 h3
  rw [List.drop_of_length_le (by omega)]
  refine Ev.step (fun k => spec_l2Set.l0.eq_2 ..) (Ev.ifF (by simp; omega) ?_)
  have : decide (((acc.map B).length : Int) ≤ 40) = decide (acc.length ≤ 40) := by
   rw [List.length_map]; exact decide_eq_decide.2 (by omega)
  rw [this]
  exact Ev.now _
 | succ d ih =>
  intro i acc h1 h2 h3
  have hi : i < ws.length := by omega
  have hm := getD_mem hi
  rw [drop_cons_getD [] hi]
  refine Ev.step (fun k => spec_l2Set.l0.eq_2 ..) (Ev.ifT (by simp; omega) (Ev.ifT (by omega) ?_))
  rw [rdB ws i hi]
  refine Ev.bind (f := fun k t => if t = true then (spec_l2Put.f (acc.map B) (B (ws.getD i []))).bind fun t165 => spec_l2Set.l0 k (ws.map B) t165 (wrap64 ((i : Int) + 1)) else some ([], false)) (l2Word_ev _ (by have := hw _ hm; omega)) ?_
  unfold setR
  cases hq : wordL (ws.getD i []) with
  | false =>
   rw [if_neg Bool.false_ne_true]
   exact Ev.ifF Bool.false_ne_true (Ev.now _)
  | true =>
   rw [if_pos (show true = true from rfl)]
   refine Ev.ifT rfl ?_
   rw [l2Put_eq acc _ (by omega) (fun x hx => by have := h3 x hx; omega)]
   refine Ev.some_bind ?_
   have h6 := putL_length_le acc (ws.getD i [])
   have := ih (i + 1) (putL acc (ws.getD i [])) (by omega) (by omega) (fun x hx => by
    rcases (mem_putL _ _ _).1 hx with rfl | hx
    ·
     exact hw _ hm
    ·
     exact h3 x hx)
   rw [wrap64_succ i (by omega)]
   exact this
theorem l2Set_ev {b : Nat} (ws : List Txt) (hl : ws.length ≤ 2147483648) (hw : ∀ w ∈ ws, w.length ≤ b) (hb : b ≤ 1000000 := by omega) : Ev (fun k => spec_l2Set.f k (ws.map B)) (if ws.all wordL = true then ((setL ws).map B, decide ((setL ws).length ≤ 40)) else ([], false)) := by
 have := l2Set_loop hb ws hl hw ws.length 0 [] (by omega) (by simp) (by simp)
 rw [List.drop_zero, setR_eq] at this
 exact this
theorem l2Has_loop (l : List Txt) (p : Txt) (hl : l.length ≤ 4611686018427387903) : ∀ (d i : Nat), i + d = l.length → Ev (fun k => spec_l2Has.l0 k (l.map B) (B p) (i : Int)) (decide (p ∈ l.drop i)) := by
 intro d
 induction d with
 | zero =>
  intro i h
  rw [List.drop_of_length_le (by omega)]
  exact Ev.step (fun k => spec_l2Has.l0.eq_2 ..) (Ev.ifF (by simp; omega) (by simpa using Ev.now false))
 | succ d ih =>
  intro i h
  have hi : i < l.length := by omega
  refine Ev.step (fun k => spec_l2Has.l0.eq_2 ..) (Ev.ifT (by simp; omega) (Ev.ifT (by omega) ?_))
  rw [rdB l i hi, drop_cons_getD [] hi, toList_B, toList_B]
  by_cases e : l.getD i [] = p
  ·
   rw [show decide (p ∈ l.getD i [] :: l.drop (i + 1)) = true from decide_eq_true (by rw [e]; exact List.mem_cons_self)]
   exact Ev.ifT e (Ev.now _)
  ·
   rw [show decide (p ∈ l.getD i [] :: l.drop (i + 1)) = decide (p ∈ l.drop (i + 1)) from decide_eq_decide.2 ⟨fun h => (List.mem_cons.1 h).resolve_left (fun q => e q.symm), fun h => List.mem_cons_of_mem _ h⟩]
   refine Ev.ifF e ?_
   rw [wrap64_succ i (by omega)]
   exact ih (i + 1) (by omega)
theorem l2Has_ev (l : List Txt) (p : Txt) (hl : l.length ≤ 4611686018427387903) : Ev (fun k => spec_l2Has.f k (l.map B) (B p)) (decide (p ∈ l)) := by
 have := l2Has_loop l p hl l.length 0 (by omega)
 rw [List.drop_zero] at this
 exact this
theorem l2Place_loop (l : List Txt) (p : Txt) (hl : l.length ≤ 4611686018427387903) : ∀ (d i : Nat), i + d = l.length → Ev (fun k => spec_l2Place.l0 k (l.map B) (B p) (i : Int)) (if p ∈ l.drop i then ((i + placeL (l.drop i) p : Nat) : Int) else -1) := by
 intro d
 induction d with
 | zero =>
  intro i h
  rw [List.drop_of_length_le (by omega)]
  exact Ev.step (fun k => spec_l2Place.l0.eq_2 ..) (Ev.ifF (by simp; omega) (by simpa using Ev.now (-1 : Int)))
 | succ d ih =>
  intro i h
  have hi : i < l.length := by omega
  refine Ev.step (fun k => spec_l2Place.l0.eq_2 ..) (Ev.ifT (by simp; omega) (Ev.ifT (by omega) ?_))
  rw [rdB l i hi, drop_cons_getD [] hi, toList_B, toList_B]
  by_cases e : l.getD i [] = p
  ·
   rw [if_pos (show p ∈ l.getD i [] :: l.drop (i + 1) from by rw [e]; exact List.mem_cons_self), placeL, if_pos e]
   exact Ev.ifT e (Ev.now _)
  ·
   refine Ev.ifF e ?_
   rw [wrap64_succ i (by omega)]
   have h1 := ih (i + 1) (by omega)
   by_cases hm : p ∈ l.drop (i + 1)
   ·
    rw [if_pos hm] at h1
    rw [if_pos (List.mem_cons_of_mem _ hm), placeL, if_neg e]
    rwa [show i + (placeL (l.drop (i + 1)) p + 1) = i + 1 + placeL (l.drop (i + 1)) p from by omega]
   ·
    rw [if_neg hm] at h1
    rw [if_neg (fun h => hm ((List.mem_cons.1 h).resolve_left (fun q => e q.symm)))]
    exact h1
theorem l2Place_ev (l : List Txt) (p : Txt) (hl : l.length ≤ 4611686018427387903) (h : p ∈ l) : Ev (fun k => spec_l2Place.f k (l.map B) (B p)) (placeL l p : Int) := by
 have := l2Place_loop l p hl l.length 0 (by omega)
 rw [List.drop_zero, if_pos h, Nat.zero_add] at this
 exact this
def begF (w : Txt) : Nat → Nat → List Txt
 | _, 0 => []
 | n, d + 1 => w.take n :: begF w (n + 1) d
theorem begF_eq (w : Txt) : ∀ d n, begF w n d = (List.range d).map fun j => w.take (n + j)
 | 0, _ => rfl
 | d + 1, n => by
  rw [begF, begF_eq w d (n + 1), List.range_succ_eq_map, List.map_cons, List.map_map]
  congr 1
  exact List.map_congr_left fun j _ => by show w.take (n + 1 + j) = w.take (n + (j + 1)); congr 1; omega
theorem begs_begF (w : Txt) : begs w = begF w 1 w.length := by
 rw [begF_eq]
 exact List.map_congr_left fun j _ => by congr 1; omega
theorem begF_len (w : Txt) : ∀ d n, (begF w n d).length = d := fun d n => by rw [begF_eq]; simp
theorem l2Of_in (ws : List Txt) (hl : ws.length ≤ 40) (hw : ∀ w ∈ ws, w.length ≤ 12) (i : Nat) (hi : i < ws.length) (r : List S58) (acc2 : List Txt) (hr : Ev (fun k => spec_l2Of.l0 k (ws.map B) (acc2.map B) ((i + 1 : Nat) : Int)) r) :
  ∀ (d n : Nat) (acc : List Txt), 0 < n → n + d = (ws.getD i []).length + 1 → (begF (ws.getD i []) n d).foldl putL acc = acc2 → acc.length + d ≤ 1000 → (∀ x ∈ acc, x.length ≤ 12) → Ev (fun k => spec_l2Of.l1 k (ws.map B) (acc.map B) (i : Int) (n : Int)) r := by
 have hwi := hw _ (getD_mem hi)
 intro d
 induction d with
 | zero =>
  intro n acc h0 h1 h2 h3 h4
  rw [begF, List.foldl_nil] at h2
  subst h2
  refine Ev.step (fun k => spec_l2Of.l1.eq_2 ..) (Ev.ifT (by omega) (Ev.ifT (by simp; omega) (Ev.ifF (by rw [rdB ws i hi, size_B]; omega) ?_)))
  rw [wrap64_succ i (by omega)]
  exact hr
 | succ d ih =>
  intro n acc h0 h1 h2 h3 h4
  refine Ev.step (fun k => spec_l2Of.l1.eq_2 ..) (Ev.ifT (by omega) (Ev.ifT (by simp; omega) (Ev.ifT (by rw [rdB ws i hi, size_B]; omega) (Ev.ifT (by omega) ?_))))
  rw [rdB ws i hi, extract_B, List.drop_zero, Int.toNat_natCast, Nat.sub_zero, l2Put_eq acc _ (by omega) (fun x hx => by have := h4 x hx; omega)]
  refine Ev.some_bind ?_
  rw [wrap64_succ n (by omega)]
  have h6 := putL_length_le acc ((ws.getD i []).take n)
  exact ih (n + 1) (putL acc ((ws.getD i []).take n)) (by omega) (by omega) (by rw [← h2]; rfl) (by omega) (fun x hx => by
   rcases (mem_putL _ _ _).1 hx with rfl | hx
   ·
    rw [List.length_take]; omega
   ·
    exact h4 x hx)
theorem l2Of_out (ws : List Txt) (hl : ws.length ≤ 40) (hw : ∀ w ∈ ws, w.length ≤ 12) (r : List S58) (all : List Txt) (hr : Ev (fun k => spec_l2Of.l2 k (ws.map B) (all.map B) 0 []) r) :
  ∀ (d i : Nat) (acc : List Txt), i + d = ws.length → ((ws.drop i).flatMap begs).foldl putL acc = all → acc.length + 12 * d ≤ 600 → (∀ x ∈ acc, x.length ≤ 12) → Ev (fun k => spec_l2Of.l0 k (ws.map B) (acc.map B) (i : Int)) r := by
 intro d
 induction d with
 | zero =>
  intro i acc h1 h2 h3 h4
  rw [List.drop_of_length_le (by omega), List.flatMap_nil, List.foldl_nil] at h2
  subst h2
  exact Ev.step (fun k => spec_l2Of.l0.eq_2 ..) (Ev.ifF (by simp; omega) hr)
 | succ d ih =>
  intro i acc h1 h2 h3 h4
  have hi : i < ws.length := by omega
  have hwi := hw _ (getD_mem hi)
  rw [drop_cons_getD [] hi, List.flatMap_cons, List.foldl_append] at h2
  have h5 := foldl_putL_len (begs (ws.getD i [])) acc
  rw [begs_length] at h5
  have hn := ih (i + 1) _ (by omega) h2 (by omega) (fun x hx => by
   rcases (foldl_putL_mem _ _ _).1 hx with hx | hx
   ·
    exact Nat.le_trans (mem_begs.1 hx).2.length_le hwi
   ·
    exact h4 x hx)
  refine Ev.step (fun k => spec_l2Of.l0.eq_2 ..) (Ev.ifT (by simp; omega) ?_)
  exact l2Of_in ws hl hw i hi r _ hn (ws.getD i []).length 1 acc (by omega) (by omega) (by rw [← begs_begF]) (by omega) h4
theorem l2Of_nodes {ws P : List Txt} (hA : Asc P) (hC : Clo P) (hW : ∀ p ∈ P, wordL p = true) (hP : P.length ≤ 1000) (hl : ws.length ≤ 1000) : ∀ (d i : Nat) (acc : List S58), i + d = P.length → acc.length ≤ i →
  Ev (fun k => spec_l2Of.l2 k (ws.map B) (P.map B) (i : Int) acc) (acc ++ ((P.drop i).map fun p => mkN (ndL P ws p))) := by
 intro d
 induction d with
 | zero =>
  intro i acc h1 h2
  rw [List.drop_of_length_le (by omega), List.map_nil, List.append_nil]
  exact Ev.step (fun k => spec_l2Of.l2.eq_2 ..) (Ev.ifF (by simp; omega) (Ev.now _))
 | succ d ih =>
  intro i acc h1 h2
  have hi : i < P.length := by omega
  have hm := getD_mem hi
  rw [drop_cons_getD [] hi, List.map_cons]
  refine Ev.step (fun k => spec_l2Of.l2.eq_2 ..) (Ev.ifT (by simp; omega) (Ev.ifT (by omega) ?_))
  rw [rdB P i hi]
  refine Ev.bind (l2Has_ev ws (P.getD i []) (by omega)) ?_
  have hcons : ∀ x : S58, acc ++ (x :: (P.drop (i + 1)).map fun p => mkN (ndL P ws p)) = (acc ++ [x]) ++ (P.drop (i + 1)).map fun p => mkN (ndL P ws p) := fun x => by simp
  rw [hcons]
  by_cases h0 : i = 0
  ·
   have hp : P.getD i [] = [] := by rw [h0]; exact (clo_zero hA hC).2
   refine Ev.ifF (by omega) (Ev.ifT (by omega) ?_)
   have hx : mkN (ndL P ws (P.getD i [])) = ⟨-1, -1, decide (P.getD i [] ∈ ws)⟩ := by unfold mkN ndL; rw [if_pos hp, if_pos hp]
   rw [hx, wrap64_succ i (by omega)]
   exact ih (i + 1) _ (by omega) (by simp; omega)
  ·
   have hne := clo_pos hA hC hi (by omega)
   have hlen := List.length_pos_iff.2 hne
   have h12 := (wordL_iff.1 (hW _ hm)).2
   have hw1 : wrap64 (((B (P.getD i [])).size : Int) - 1) = ((P.getD i []).length - 1 : Nat) := by rw [size_B, wrap64_id (by omega) (by omega)]; omega
   rw [hw1]
   refine Ev.ifT (by omega) (Ev.ifT (by omega) (Ev.ifT (by rw [size_B]; omega) (Ev.ifT (by rw [size_B]; omega) ?_)))
   rw [extract_B, List.drop_zero, Int.toNat_natCast, Nat.sub_zero, ← List.dropLast_eq_take]
   refine Ev.bind (l2Place_ev P _ (by omega) (hC.2 _ hm hne)) (Ev.ifT (by omega) ?_)
   have hx : mkN (ndL P ws (P.getD i [])) = ⟨((bt (B (P.getD i [])) (((P.getD i []).length - 1 : Nat) : Int)) - 97) % 256, (placeL P (P.getD i []).dropLast : Int), decide (P.getD i [] ∈ ws)⟩ := by
    unfold mkN ndL
    rw [if_neg hne, if_neg hne, bt_B _ _ (by omega)]
    rfl
   rw [hx, wrap64_succ i (by omega)]
   exact ih (i + 1) _ (by omega) (by simp; omega)
theorem l2Of_ev {ws : List Txt} (h : OkW ws) : Ev (fun k => spec_l2Of.f k (ws.map B)) (trN (preL ws) ws) := by
 have h1 := h.pre
 have h2 := h.len
 have hn := l2Of_nodes (ws := ws) (asc_preL ws) (clo_preL ws) (fun p hp => preL_word h.word hp) (by omega) (by omega) (preL ws).length 0 [] (by omega) (by simp)
 rw [List.drop_zero, List.nil_append] at hn
 have e : (preL ws).map (fun p => mkN (ndL (preL ws) ws p)) = trN (preL ws) ws := by unfold trN nodesL; rw [List.map_map]; rfl
 rw [e] at hn
 exact l2Of_out ws h.len h.le _ (preL ws) hn ws.length 0 [[]] (by omega) rfl (by simp; omega) (by simp)
theorem rd_get (N : List S58) (i : Nat) (h : i < N.length) : rd_T58 N (i : Int) = N[i] := by
 unfold rd_T58
 rw [Int.toNat_natCast, getD_lt _ h]
theorem okW_setL {ws : List Txt} (h : ws.all wordL = true) (hl : (setL ws).length ≤ 40) : OkW (setL ws) := ⟨asc_setL ws, hl, fun w hw => List.all_eq_true.1 h w ((mem_setL ws w).1 hw)⟩
def IsTr (N : List S58) : Prop := ∃ ws, OkW ws ∧ N = trN (preL ws) ws
theorem IsTr.len {N : List S58} (h : IsTr N) : 1 ≤ N.length ∧ N.length ≤ 481 := by
 obtain ⟨ws, h, rfl⟩ := h
 rw [trN_length]
 exact ⟨(clo_zero (asc_preL ws) (clo_preL ws)).1, h.pre⟩
theorem l2Words_loop_ex (N : List S58) (hN : N.length ≤ 4294967296) : ∀ (d i : Nat) (acc : List Txt), i + d = N.length → acc.length ≤ i → (∀ w ∈ acc, w.length ≤ 13) →
  ∃ ws : List Txt, ws.length ≤ N.length ∧ (∀ w ∈ ws, w.length ≤ 13) ∧ Ev (fun k => spec_l2Words.l0 k (acc.map B) (i : Int) N) (ws.map B) := by
 intro d
 induction d with
 | zero => intro i acc h1 h2 h3; exact ⟨acc, by omega, h3, Ev.step (fun k => spec_l2Words.l0.eq_2 ..) (Ev.ifF (by omega) (Ev.now _))⟩
 | succ d ih =>
  intro i acc h1 h2 h3
  by_cases hf : (rd_T58 N (i : Int)).f2 = true
  ·
   obtain ⟨r, hr, he⟩ := l2Prefix_ex N i (i : Int) [] (by omega) (by omega) (by simp)
   obtain ⟨ws, w1, w2, w3⟩ := ih (i + 1) (acc ++ [r]) (by omega) (by simp; omega) (fun w hw => by
    rcases List.mem_append.1 hw with hw | hw
    ·
     exact h3 w hw
    ·
     rw [List.mem_singleton.1 hw]; exact hr)
   refine ⟨ws, w1, w2, Ev.step (fun k => spec_l2Words.l0.eq_2 ..) (Ev.ifT (by omega) (Ev.ifT (by omega) (Ev.ifT hf (Ev.bind (f := fun k t => if (acc.map B).length < 8796093022208 then spec_l2Words.l0 k (acc.map B ++ [t]) (wrap64 ((i : Int) + 1)) N else none) he (Ev.ifT (by simp; omega) ?_)))))⟩
   simpa only [wrap64_succ i (by omega), List.map_append, List.map_cons, List.map_nil] using w3
  ·
   obtain ⟨ws, w1, w2, w3⟩ := ih (i + 1) acc (by omega) (by omega) h3
   refine ⟨ws, w1, w2, Ev.step (fun k => spec_l2Words.l0.eq_2 ..) (Ev.ifT (by omega) (Ev.ifT (by omega) (Ev.ifF hf ?_)))⟩
   simpa only [wrap64_succ i (by omega)] using w3
theorem l2Words_ex (N : List S58) (hN : N.length ≤ 4294967296) : ∃ ws : List Txt, ws.length ≤ N.length ∧ (∀ w ∈ ws, w.length ≤ 13) ∧ Ev (fun k => spec_l2Words.f k N) (ws.map B) :=
 l2Words_loop_ex N hN N.length 0 [] (by omega) (by simp) (by simp)
theorem l2Words_loop {P : List Txt} (ws : List Txt) (hA : Asc P) (hC : Clo P) (hW : ∀ p ∈ P, wordL p = true) (hP : P.length ≤ 4294967296) : ∀ (d i : Nat) (acc : List Txt), i + d = P.length → acc.length ≤ i →
  Ev (fun k => spec_l2Words.l0 k (acc.map B) (i : Int) (trN P ws)) ((acc ++ (P.drop i).filter (fun p => decide (p ∈ ws))).map B) := by
 intro d
 induction d with
 | zero =>
  intro i acc h1 h2
  rw [List.drop_of_length_le (by omega)]
  exact Ev.step (fun k => spec_l2Words.l0.eq_2 ..) (Ev.ifF (by rw [trN_length]; omega) (by simpa using Ev.now _))
 | succ d ih =>
  intro i acc h1 h2
  have hi : i < P.length := by omega
  have hf : (rd_T58 (trN P ws) (i : Int)).f2 = decide (P.getD i [] ∈ ws) := by rw [rdN P ws i hi]; rfl
  rw [drop_cons_getD [] hi, List.filter_cons]
  by_cases hm : P.getD i [] ∈ ws
  ·
   rw [decide_eq_true hm] at hf
   rw [decide_eq_true hm, if_pos rfl]
   refine Ev.step (fun k => spec_l2Words.l0.eq_2 ..) (Ev.ifT (by rw [trN_length]; omega) (Ev.ifT (by omega) (Ev.ifT hf (Ev.bind (f := fun k t => if (acc.map B).length < 8796093022208 then spec_l2Words.l0 k (acc.map B ++ [t]) (wrap64 ((i : Int) + 1)) (trN P ws) else none) (l2Prefix_ev ws hA hC hW i hi) (Ev.ifT (by simp; omega) ?_)))))
   have := ih (i + 1) (acc ++ [P.getD i []]) (by omega) (by simp; omega)
   simpa only [wrap64_succ i (by omega), List.map_append, List.map_cons, List.map_nil, List.append_assoc, List.singleton_append] using this
  ·
   rw [decide_eq_false hm] at hf
   rw [decide_eq_false hm, if_neg Bool.false_ne_true]
   refine Ev.step (fun k => spec_l2Words.l0.eq_2 ..) (Ev.ifT (by rw [trN_length]; omega) (Ev.ifT (by omega) (Ev.ifF (by rw [hf]; exact Bool.false_ne_true) ?_)))
   simpa only [wrap64_succ i (by omega)] using ih (i + 1) acc (by omega) (by omega)
theorem l2Words_ev {ws : List Txt} (h : OkW ws) : Ev (fun k => spec_l2Words.f k (trN (preL ws) ws)) (ws.map B) := by
 have := l2Words_loop ws (asc_preL ws) (clo_preL ws) (fun p hp => preL_word h.word hp) (by have := h.pre; omega) (preL ws).length 0 [] (by omega) (by simp)
 rw [List.drop_zero, List.nil_append, filter_preL h.asc] at this
 exact this
theorem node_ne (a b : S58) : (!(a.f0 == b.f0) || (!(a.f1 == b.f1) || (!(a.f2 == b.f2)))) = decide (a ≠ b) := by
 obtain ⟨a0, a1, a2⟩ := a
 obtain ⟨b0, b1, b2⟩ := b
 rw [Bool.eq_iff_iff]
 simp only [Bool.or_eq_true, Bool.not_eq_true', beq_eq_false_iff_ne, decide_eq_true_eq, ne_eq, S58.mk.injEq]
 constructor
 ·
  rintro (h | h | h) ⟨e1, e2, e3⟩
  ·
   exact h e1
  ·
   exact h e2
  ·
   exact h e3
 ·
  intro h
  by_cases e1 : a0 = b0
  ·
   by_cases e2 : a1 = b1
   ·
    exact .inr (.inr fun e3 => h ⟨e1, e2, e3⟩)
   ·
    exact .inr (.inl e2)
  ·
   exact .inl e1
theorem l2Same_loop (M N : List S58) (hM : M.length ≤ 4611686018427387903) : ∀ (d i : Nat), i + d = M.length → i ≤ N.length → Ev (fun k => spec_l2Same.l0 k (i : Int) M N) (decide (M.drop i = N.drop i)) := by
 have fin : ∀ i : Nat, (i = M.length ∨ i = N.length) → i ≤ M.length → i ≤ N.length → Ev (fun k => spec_l2Same.j1 k (i : Int) false M N) (decide (M.drop i = N.drop i)) := by
  intro i h1 h2 h3
  refine Ev.step (fun k => spec_l2Same.j1.eq_2 ..) (Ev.ifF (by simp) ?_)
  have : ((M.length : Int) == (N.length : Int)) = decide (M.drop i = N.drop i) := by
   rw [Bool.eq_iff_iff, beq_iff_eq, decide_eq_true_eq]
   constructor
   ·
    intro e
    rw [List.drop_of_length_le (by omega), List.drop_of_length_le (by omega)]
   ·
    intro e
    have := congrArg List.length e
    rw [List.length_drop, List.length_drop] at this
    omega
  rw [this]
  exact Ev.now _
 intro d
 induction d with
 | zero =>
  intro i h1 h2
  exact Ev.step (fun k => spec_l2Same.l0.eq_2 ..) (Ev.ifF (by omega) (fin i (by omega) (by omega) h2))
 | succ d ih =>
  intro i h1 h2
  refine Ev.step (fun k => spec_l2Same.l0.eq_2 ..) (Ev.ifT (by omega) ?_)
  by_cases hi : i < N.length
  ·
   rw [decide_eq_true (show (i : Int) < (N.length : Int) by omega)]
   refine Ev.step (fun k => spec_l2Same.j1.eq_2 ..) (Ev.ifT rfl (Ev.ifT (by omega) (Ev.ifT (by omega) (Ev.ifT (by omega) ?_))))
   rw [node_ne, rd_get M i (by omega), rd_get N i hi, List.drop_eq_getElem_cons (show i < M.length by omega), List.drop_eq_getElem_cons hi]
   by_cases e : M[i] = N[i]
   ·
    refine Ev.ifF (by simp [e]) ?_
    rw [wrap64_succ i (by omega), show decide (M[i] :: M.drop (i + 1) = N[i] :: N.drop (i + 1)) = decide (M.drop (i + 1) = N.drop (i + 1)) from decide_eq_decide.2 ⟨fun h => (List.cons.inj h).2, fun h => by rw [e, h]⟩]
    exact ih (i + 1) (by omega) (by omega)
   ·
    refine Ev.ifT (by simp [e]) ?_
    rw [show decide (M[i] :: M.drop (i + 1) = N[i] :: N.drop (i + 1)) = false from decide_eq_false fun h => e (List.cons.inj h).1]
    exact Ev.now _
  ·
   rw [decide_eq_false (show ¬ (i : Int) < (N.length : Int) by omega)]
   exact fin i (by omega) (by omega) h2
theorem l2Same_ev (M N : List S58) (hM : M.length ≤ 4611686018427387903) : Ev (fun k => spec_l2Same.f k M N) (decide (M = N)) := by
 have := l2Same_loop M N hM M.length 0 (by omega) (by omega)
 rwa [List.drop_zero, List.drop_zero] at this
theorem l2Trie_ev (N : List S58) : ∃ b : Bool, (b = true ↔ IsTr N) ∧ Ev (fun k => spec_l2Trie.f k N) b := by
 unfold spec_l2Trie.f
 simp only [l1In_eq]
 by_cases hn : 1 ≤ (N.length : Int) ∧ (N.length : Int) ≤ 481
 ·
  rw [decide_eq_true hn]
  by_cases ht : IsTr N
  ·
   refine ⟨true, by simp [ht], Ev.some_bind (Ev.ifT rfl ?_)⟩
   obtain ⟨ws, h, rfl⟩ := ht
   refine Ev.bind (l2Words_ev h) (Ev.bind (l2Set_ev (b := 13) ws (by have := h.len; omega) (fun w hw => by have := h.le w hw; omega)) ?_)
   rw [if_pos (List.all_eq_true.2 h.word), setL_of_asc h.asc]
   refine Ev.ifT (by simpa using h.len) (Ev.bind (l2Of_ev h) (Ev.bind (l2Same_ev _ _ (by rw [trN_length]; have := h.pre; omega)) ?_))
   simpa using Ev.now true
  ·
   refine ⟨false, by simp [ht], Ev.some_bind (Ev.ifT rfl ?_)⟩
   obtain ⟨ws, w1, w2, w3⟩ := l2Words_ex N (by omega)
   refine Ev.bind w3 (Ev.bind (l2Set_ev ws (by omega) w2) ?_)
   by_cases ha : ws.all wordL = true
   ·
    rw [if_pos ha]
    by_cases hl : (setL ws).length ≤ 40
    ·
     have hok := okW_setL ha hl
     refine Ev.ifT (by simpa using hl) (Ev.bind (l2Of_ev hok) (Ev.bind (l2Same_ev _ _ (by rw [trN_length]; have := hok.pre; omega)) ?_))
     rw [show decide (trN (preL (setL ws)) (setL ws) = N) = false from decide_eq_false fun e => ht ⟨_, hok, e.symm⟩]
     exact Ev.now false
    ·
     exact Ev.ifF (by simpa using hl) (Ev.now false)
   ·
    rw [if_neg ha]
    exact Ev.ifF (by simp) (Ev.now false)
 ·
  rw [decide_eq_false hn]
  refine ⟨false, ?_, Ev.some_bind (Ev.ifF (by simp) (Ev.now false))⟩
  simp only [Bool.false_eq_true, false_iff]
  intro h
  have := h.len
  omega
theorem in_eq (a b c : Int) : impl_in.f a b c = some (decide (b ≤ a ∧ a ≤ c)) := by
 unfold impl_in.f
 by_cases h : b ≤ a
 ·
  rw [if_pos (by omega)]; simp [h]
 ·
  rw [if_neg (by omega)]; simp [h]
abbrev Nd := S58
theorem bytesLess_eq : ∀ (x y : Txt), Op.bytesLess x y = decide (x < y)
 | [], [] => by rw [decide_eq_false (txt_irrefl [])]; rfl
 | _ :: _, [] => by rw [decide_eq_false (List.not_lt_nil _)]; rfl
 | [], b :: y => by rw [decide_eq_true (List.nil_lt_cons b y)]; rfl
 | a :: x, b :: y => by
  rw [Op.bytesLess, bytesLess_eq x y, Bool.eq_iff_iff, decide_eq_true_eq, List.cons_lt_cons_iff]
  simp
theorem less_eq (x y : Txt) : cmp_Less_string.f (B x) (B y) = some (decide (x < y)) := by
 unfold cmp_Less_string.f cmp_isNaN_string.f
 rw [toList_B, toList_B, ← bytesLess_eq]
 simp
def Srt (ws : List Txt) : Prop := ∀ j, j + 1 < ws.length → ¬ ws.getD (j + 1) [] < ws.getD j []
theorem Srt.le {ws : List Txt} (h : Srt ws) (i : Nat) : ∀ d, i + d < ws.length → ¬ ws.getD (i + d) [] < ws.getD i []
 | 0, _ => txt_irrefl _
 | d + 1, hd => fun hlt => by
  have h1 := h.le i d (by omega)
  have h2 := h (i + d) (by omega)
  exact h1 (List.lt_of_le_of_lt (List.not_lt.1 h2) hlt)
theorem srt_asc {ws : List Txt} (h : Asc ws) : Srt ws := fun j hj => txt_asymm (asc_get h hj (Nat.lt_succ_self j))
theorem half_eq (i j : Nat) (h : i + j ≤ 4611686018427387903) : wrap64 ((IntKind.u64.wrap (wrap64 ((i : Int) + (j : Int)))) / 2) = (((i + j) / 2 : Nat) : Int) := by
 have e1 : wrap64 ((i : Int) + (j : Int)) = ((i + j : Nat) : Int) := by rw [wrap64_id (by omega) (by omega)]; omega
 have e2 : IntKind.u64.wrap (((i + j : Nat) : Int)) = ((i + j : Nat) : Int) := by
  simp [IntKind.wrap, IntKind.bits, IntKind.signed]; omega
 rw [e1, e2, wrap64_id (by omega) (by omega)]
 omega
theorem search_loop (ws : List Txt) (p : Txt) (hl : ws.length ≤ 1000000000) (hs : Srt ws) : ∀ (d i j : Nat), i + d = j → j ≤ ws.length → (∀ m, m < i → ws.getD m [] < p) → (∀ m, j ≤ m → m < ws.length → ¬ ws.getD m [] < p) →
  ∃ q : Nat, q ≤ ws.length ∧ (∀ m, m < q → ws.getD m [] < p) ∧ (∀ m, q ≤ m → m < ws.length → ¬ ws.getD m [] < p) ∧ Ev (fun k => slices_BinarySearch_string_string.l0 k (ws.map B) (B p) (ws.length : Int) (i : Int) (j : Int)) ((q : Int), decide (p ∈ ws)) := by
 intro d
 induction d using Nat.strongRecOn with
 | _ d ih =>
  intro i j h1 h2 h3 h4
  by_cases hij : i < j
  ·
   have hh : (i + j) / 2 < ws.length := by omega
   by_cases hlt : ws.getD ((i + j) / 2) [] < p
   ·
    obtain ⟨q, q1, q2, q3, q4⟩ := ih (j - ((i + j) / 2 + 1)) (by omega) ((i + j) / 2 + 1) j (by omega) h2 (fun m hm => by
     by_cases e : m = (i + j) / 2
     ·
      rw [e]; exact hlt
     ·
      by_cases hmi : m < i
      ·
       exact h3 m hmi
      ·
       have hle := hs.le m ((i + j) / 2 - m) (by omega)
       rw [show m + ((i + j) / 2 - m) = (i + j) / 2 from by omega] at hle
       exact List.lt_of_le_of_lt (List.not_lt.1 hle) hlt) h4
    refine ⟨q, q1, q2, q3, Ev.step (fun k => slices_BinarySearch_string_string.l0.eq_2 ..) (Ev.ifT (by omega) ?_)⟩
    rw [half_eq i j (by omega)]
    refine Ev.ifT (by omega) (Ev.ifT (by rw [List.length_map]; omega) ?_)
    rw [rdB ws _ hh, less_eq, decide_eq_true hlt]
    refine Ev.some_bind (Ev.ifT rfl ?_)
    rw [wrap64_succ _ (by omega)]
    exact q4
   ·
    obtain ⟨q, q1, q2, q3, q4⟩ := ih ((i + j) / 2 - i) (by omega) i ((i + j) / 2) (by omega) (by omega) h3 (fun m hm hml => by
     have hle := hs.le ((i + j) / 2) (m - (i + j) / 2) (by omega)
     rw [show (i + j) / 2 + (m - (i + j) / 2) = m from by omega] at hle
     exact fun hp => hlt (List.lt_of_le_of_lt (List.not_lt.1 hle) hp))
    refine ⟨q, q1, q2, q3, Ev.step (fun k => slices_BinarySearch_string_string.l0.eq_2 ..) (Ev.ifT (by omega) ?_)⟩
    rw [half_eq i j (by omega)]
    refine Ev.ifT (by omega) (Ev.ifT (by rw [List.length_map]; omega) ?_)
    rw [rdB ws _ hh, less_eq, decide_eq_false hlt]
    exact Ev.some_bind (Ev.ifF Bool.false_ne_true q4)
  ·
   obtain rfl : i = j := by omega
   refine ⟨i, h2, h3, h4, Ev.step (fun k => slices_BinarySearch_string_string.l0.eq_2 ..) (Ev.ifF (by omega) ?_)⟩
   by_cases hn : i < ws.length
   ·
    refine Ev.ifT (by omega) (Ev.ifT (by omega) (Ev.ifT (by rw [List.length_map]; omega) ?_))
    rw [rdB ws i hn, toList_B, toList_B]
    by_cases e : ws.getD i [] = p
    ·
     rw [decide_eq_true (show p ∈ ws from e ▸ getD_mem hn)]
     exact Ev.ifT e (Ev.now _)
    ·
     have hm : ¬ p ∈ ws := fun hp => by
      obtain ⟨z1, z2⟩ := placeL_mem hp
      have hz : i ≤ placeL ws p := by
       by_cases hzi : placeL ws p < i
       ·
        have := h3 _ hzi; rw [z2] at this; exact absurd this (txt_irrefl _)
       ·
        omega
      have hle := hs.le i (placeL ws p - i) (by omega)
      rw [show i + (placeL ws p - i) = placeL ws p from by omega, z2] at hle
      exact e (txt_tri (h4 i (Nat.le_refl _) hn) hle)
     rw [decide_eq_false hm]
     refine Ev.ifF e ?_
     unfold slices_isNaN_string.f
     exact Ev.some_bind (Ev.ifF (by simp) (Ev.now _))
   ·
    have hm : ¬ p ∈ ws := fun hp => by
     obtain ⟨z1, z2⟩ := placeL_mem hp
     have := h3 _ (show placeL ws p < i by omega)
     rw [z2] at this
     exact txt_irrefl _ this
    rw [decide_eq_false hm]
    exact Ev.ifF (by omega) (Ev.now _)
theorem search_ev (ws : List Txt) (p : Txt) (hl : ws.length ≤ 1000000000) (hs : Srt ws) : ∃ q : Nat, q ≤ ws.length ∧ (∀ m, m < q → ws.getD m [] < p) ∧ (∀ m, q ≤ m → m < ws.length → ¬ ws.getD m [] < p) ∧ Ev (fun k => slices_BinarySearch_string_string.f k (ws.map B) (B p)) ((q : Int), decide (p ∈ ws)) := by
 unfold slices_BinarySearch_string_string.f
 have := search_loop ws p hl hs ws.length 0 ws.length (by omega) (Nat.le_refl _) (fun m hm => absurd hm (Nat.not_lt_zero _)) (fun m h1 h2 => absurd h2 (by omega))
 rw [List.length_map]
 exact this
def prefGo : List Nd → List Txt → Option (List Txt)
 | [], acc => some acc
 | n :: r, acc => if 0 ≤ n.f1 ∧ n.f1 < (acc.length : Int) ∧ 0 ≤ n.f0 ∧ n.f0 ≤ 25 then prefGo r (acc ++ [acc.getD n.f1.toNat [] ++ [UInt8.ofNat (97 + n.f0.toNat)]]) else none
def prefR : Option (List Txt) → List ByteArray × Bool
 | some ps => (ps.map B, true)
 | none => ([], false)
theorem letter_eq (n : Int) (h0 : 0 ≤ n) (h1 : n ≤ 25) : impl_letter.f n = some (B [UInt8.ofNat (97 + n.toNat)]) := by
 unfold impl_letter.f
 rw [strOfNums_B]
 congr 3
 rw [wrap64_id (by omega) (by omega)]
 congr 1
 omega
theorem getD_le {acc : List Txt} {b : Nat} (h : ∀ p ∈ acc, p.length ≤ b) (n : Nat) : (acc.getD n []).length ≤ b := by
 by_cases hn : n < acc.length
 ·
  exact h _ (getD_mem hn)
 ·
  rw [List.getD_eq_getElem?_getD, List.getElem?_eq_none (by omega)]; simp
theorem pref_loop (N' : List Nd) (hN : N'.length ≤ 1000000) : ∀ (d i : Nat) (acc : List Txt), i + d = N'.length → acc.length = i + 1 → (∀ p ∈ acc, p.length ≤ i) →
  Ev (fun k => impl_Trie_prefixes.l0 k (acc.map B) N' (N'.length : Int) (i : Int)) (prefR (prefGo (N'.drop i) acc)) := by
 intro d
 induction d with
 | zero =>
  intro i acc h1 h2 h3
  rw [List.drop_of_length_le (by omega)]
  exact Ev.step (fun k => impl_Trie_prefixes.l0.eq_2 ..) (Ev.ifF (by omega) (Ev.now _))
 | succ d ih =>
  intro i acc h1 h2 h3
  have hi : i < N'.length := by omega
  rw [List.drop_eq_getElem_cons hi]
  refine Ev.step (fun k => impl_Trie_prefixes.l0.eq_2 ..) (Ev.ifT (by omega) (Ev.ifT (by omega) (Ev.ifT (by omega) ?_)))
  rw [rd_get N' i hi, in_eq]
  unfold prefGo
  by_cases ha : 0 ≤ N'[i].f1 ∧ N'[i].f1 ≤ (i : Int)
  ·
   rw [decide_eq_true ha]
   refine Ev.some_bind (Ev.ifT rfl ?_)
   rw [in_eq]
   by_cases hb : 0 ≤ N'[i].f0 ∧ N'[i].f0 ≤ 25
   ·
    rw [decide_eq_true hb, if_pos ⟨ha.1, by omega, hb.1, hb.2⟩]
    refine Ev.some_bind (Ev.ifT rfl (Ev.ifT ha.1 (Ev.ifT (by rw [List.length_map]; omega) ?_)))
    rw [letter_eq _ hb.1 hb.2]
    refine Ev.some_bind ?_
    obtain ⟨m, hm⟩ : ∃ m : Nat, N'[i].f1 = (m : Int) := ⟨N'[i].f1.toNat, by omega⟩
    have hml : m < acc.length := by omega
    have hmb := getD_le h3 m
    rw [hm, rdB acc m hml, Int.toNat_natCast]
    refine Ev.ifT (by rw [size_B, size_B, List.length_singleton]; omega) (Ev.ifT (by rw [List.length_map]; omega) ?_)
    rw [append_B, wrap64_succ i (by omega)]
    have := ih (i + 1) (acc ++ [acc.getD m [] ++ [UInt8.ofNat (97 + N'[i].f0.toNat)]]) (by omega) (by simp; omega) (fun p hp => by
     rcases List.mem_append.1 hp with hp | hp
     ·
      have := h3 p hp; omega
     ·
      rw [List.mem_singleton.1 hp]; simp; simpa using hmb)
    rw [List.map_append, List.map_singleton] at this
    exact this
   ·
    rw [decide_eq_false hb, if_neg (fun h => hb h.2.2)]
    exact Ev.some_bind (Ev.ifF Bool.false_ne_true (Ev.now _))
  ·
   rw [decide_eq_false ha, if_neg (fun h => ha ⟨h.1, by omega⟩)]
   exact Ev.some_bind (Ev.ifF Bool.false_ne_true (Ev.now _))
def prefN (N : List Nd) : Option (List Txt) := if 1 ≤ N.length ∧ N.length ≤ 481 then prefGo (N.drop 1) [[]] else none
theorem prefixes_ev (N : List Nd) : Ev (fun k => impl_Trie_prefixes.f k N) (prefR (prefN N)) := by
 unfold impl_Trie_prefixes.f prefN
 simp only [in_eq]
 by_cases h : 1 ≤ N.length ∧ N.length ≤ 481
 ·
  rw [if_pos h, decide_eq_true (show (1 : Int) ≤ (N.length : Int) ∧ (N.length : Int) ≤ 481 by omega)]
  refine Ev.some_bind (Ev.ifT rfl (Ev.ifT (by omega) (Ev.some_bind ?_)))
  exact pref_loop (N.drop 1) (by rw [List.length_drop]; omega) (N.drop 1).length 0 [[]] (by omega) rfl (by simp)
 ·
  rw [if_neg h, decide_eq_false (show ¬ ((1 : Int) ≤ (N.length : Int) ∧ (N.length : Int) ≤ 481) by omega)]
  exact Ev.some_bind (Ev.ifF Bool.false_ne_true (Ev.now _))
theorem letterB_of (m : Nat) (h : m ≤ 25) : letterB (UInt8.ofNat (97 + m)) = true := by
 have : (UInt8.ofNat (97 + m)).toNat = 97 + m := by simp; omega
 simp only [letterB, this, decide_eq_true_eq]; omega
theorem prefGo_ok : ∀ (r : List Nd) (acc ps : List Txt), prefGo r acc = some ps → (∀ p ∈ acc, ∀ c ∈ p, letterB c = true) → (∀ p ∈ ps, ∀ c ∈ p, letterB c = true) ∧ ps.length = acc.length + r.length
 | [], acc, ps, h, ha => by
  obtain rfl := Option.some.inj h
  exact ⟨ha, rfl⟩
 | n :: r, acc, ps, h, ha => by
  unfold prefGo at h
  by_cases hc : 0 ≤ n.f1 ∧ n.f1 < (acc.length : Int) ∧ 0 ≤ n.f0 ∧ n.f0 ≤ 25
  ·
   rw [if_pos hc] at h
   obtain ⟨h1, h2⟩ := prefGo_ok r _ ps h (fun p hp c hcp => by
    rcases List.mem_append.1 hp with hp | hp
    ·
     exact ha p hp c hcp
    ·
     rw [List.mem_singleton.1 hp] at hcp
     rcases List.mem_append.1 hcp with hcp | hcp
     ·
      exact ha _ (getD_mem (by omega)) c hcp
     ·
      rw [List.mem_singleton.1 hcp]; exact letterB_of _ (by omega))
   exact ⟨h1, by rw [h2]; simp; omega⟩
  ·
   rw [if_neg hc] at h; cases h
theorem letter_last {p : Txt} (hw : wordL p = true) (h : p ≠ []) : UInt8.ofNat (97 + (ltrOf p).toNat) = p.getD (p.length - 1) 0 := by
 obtain ⟨h1, h2, h3⟩ := ltrOf_bd hw h
 have h4 := letter_bd ((wordL_iff.1 hw).1 _ (getLast_mem h))
 have e : 97 + (ltrOf p).toNat = (p.getD (p.length - 1) 0).toNat := by omega
 rw [e]; simp
theorem trN_get {P ws : List Txt} (i : Nat) (h : i < (trN P ws).length) : (trN P ws)[i] = mkN (ndL P ws (P.getD i [])) := by
 have h2 : i < P.length := by rwa [trN_length] at h
 rw [← rdN P ws i h2, rd_get _ i h]
theorem prefGo_tr {P : List Txt} (ws : List Txt) (hA : Asc P) (hC : Clo P) (hW : ∀ p ∈ P, wordL p = true) : ∀ (d i : Nat), i + d = P.length → 0 < i → prefGo ((trN P ws).drop i) (P.take i) = some P := by
 intro d
 induction d with
 | zero =>
  intro i h1 h2
  rw [List.drop_of_length_le (by rw [trN_length]; omega), List.take_of_length_le (by omega)]
  rfl
 | succ d ih =>
  intro i h1 h2
  have hi : i < P.length := by omega
  have hit : i < (trN P ws).length := by rw [trN_length]; exact hi
  have hne := clo_pos hA hC hi h2
  have hm := getD_mem hi
  obtain ⟨j1, j2⟩ := clo_parent hA hC hi h2
  obtain ⟨_, b1, b2⟩ := ltrOf_bd (hW _ hm) hne
  rw [List.drop_eq_getElem_cons hit, trN_get i hit]
  have hx : mkN (ndL P ws (P.getD i [])) = ⟨ltrOf (P.getD i []), (placeL P (P.getD i []).dropLast : Int), decide (P.getD i [] ∈ ws)⟩ := by unfold mkN ndL; rw [if_neg hne, if_neg hne]
  rw [hx]
  unfold prefGo
  have hl : (P.take i).length = i := by rw [List.length_take]; omega
  rw [if_pos ⟨Int.natCast_nonneg _, by show ((placeL P (P.getD i []).dropLast : Nat) : Int) < ((P.take i).length : Int); rw [hl]; exact Int.ofNat_lt.2 j1, b1, b2⟩]
  simp only [Int.toNat_natCast]
  have hg : (P.take i).getD (placeL P (P.getD i []).dropLast) [] = (P.getD i []).dropLast := by
   rw [getD_lt [] (by rw [hl]; exact j1), List.getElem_take, ← getD_lt [] (by omega), j2]
  rw [hg, letter_last (hW _ hm) hne, dropLast_getD _ hne, ← take_succ_getD [] hi]
  exact ih (i + 1) (by omega) (by omega)
theorem prefN_tr {ws : List Txt} (h : OkW ws) : prefN (trN (preL ws) ws) = some (preL ws) := by
 obtain ⟨z1, z2⟩ := clo_zero (asc_preL ws) (clo_preL ws)
 unfold prefN
 rw [trN_length, if_pos ⟨z1, h.pre⟩]
 have := prefGo_tr ws (asc_preL ws) (clo_preL ws) (fun p hp => preL_word h.word hp) ((preL ws).length - 1) 1 (by omega) (by omega)
 rw [show (preL ws).take 1 = [[]] from by rw [take_succ_getD [] z1, z2]; rfl] at this
 exact this
theorem prefixes_tr {ws : List Txt} (h : OkW ws) : Ev (fun k => impl_Trie_prefixes.f k (trN (preL ws) ws)) ((preL ws).map B, true) := by
 have := prefixes_ev (trN (preL ws) ws)
 rw [prefN_tr h] at this
 exact this
theorem trieOf_in (ws0 xs : List Txt) (w : Txt) (hw : w.length ≤ 12) (i : Nat) (hi : i ≤ 100000) (r : List Nd) (acc2 : List Txt) (hr : Ev (fun k => impl_trieOf.l0 k (ws0.map B) (acc2.map B) (xs.map B) (xs.length : Int) ((i + 1 : Nat) : Int)) r) :
  ∀ (d n : Nat) (acc : List Txt), n + d = w.length → acc ++ begF w (n + 1) d = acc2 → acc2.length ≤ 1000000 → Ev (fun k => impl_trieOf.l1 k (ws0.map B) (acc.map B) (B w) (xs.map B) (xs.length : Int) (i : Int) (w.length : Int) (n : Int)) r := by
 intro d
 induction d with
 | zero =>
  intro n acc h1 h2 h3
  rw [begF, List.append_nil] at h2
  subst h2
  refine Ev.step (fun k => impl_trieOf.l1.eq_2 ..) (Ev.ifF (by omega) ?_)
  rw [wrap64_succ i (by omega)]
  exact hr
 | succ d ih =>
  intro n acc h1 h2 h3
  have hl : acc.length ≤ 1000000 := by rw [← h2, List.length_append] at h3; omega
  refine Ev.step (fun k => impl_trieOf.l1.eq_2 ..) (Ev.ifT (by omega) ?_)
  rw [wrap64_succ n (by omega)]
  refine Ev.ifT (by omega) (Ev.ifT (by rw [size_B]; omega) (Ev.ifT (by rw [List.length_map]; omega) ?_))
  rw [extract_B, List.drop_zero, Int.toNat_natCast, Nat.sub_zero]
  have := ih (n + 1) (acc ++ [w.take (n + 1)]) (by omega) (by rw [← h2, begF]; simp) h3
  rw [List.map_append, List.map_singleton] at this
  exact this
theorem trieOf_out (ws0 xs : List Txt) (hl : xs.length ≤ 1000) (hw : ∀ w ∈ xs, w.length ≤ 12) (r : List Nd) (hr : Ev (fun k => impl_trieOf.l2 k (ws0.map B) ((preL xs).map B) ((preL xs).length : Int) 0 []) r) :
  ∀ (d i : Nat) (acc : List Txt), i + d = xs.length → acc ++ (xs.drop i).flatMap begs = [] :: xs.flatMap begs → Ev (fun k => impl_trieOf.l0 k (ws0.map B) (acc.map B) (xs.map B) (xs.length : Int) (i : Int)) r := by
 have hall := flatMap_begs_length xs hw
 have hpl := preL_length hw
 intro d
 induction d with
 | zero =>
  intro i acc h1 h2
  rw [List.drop_of_length_le (by omega), List.flatMap_nil, List.append_nil] at h2
  subst h2
  refine Ev.step (fun k => impl_trieOf.l0.eq_2 ..) (Ev.ifF (by omega) ?_)
  rw [set_eq _ (by rw [List.length_cons]; omega)]
  refine Ev.some_bind (Ev.ifT ?_ ?_)
  ·
   unfold SM.okL
   rw [Bool.and_eq_true, List.all_eq_true, decide_eq_true_eq]
   refine ⟨fun x hx => ?_, by rw [List.length_map]; show (preL xs).length ≤ _; omega⟩
   obtain ⟨y, hy, rfl⟩ := List.mem_map.1 hx
   have hy' : y ∈ preL xs := hy
   have : y.length ≤ 12 := by
    rcases mem_preL.1 hy' with rfl | ⟨w, hw', _, hp⟩
    ·
     simp
    ·
     exact Nat.le_trans hp.length_le (hw w hw')
   rw [decide_eq_true_eq, size_B]; omega
  ·
   rw [List.length_map]
   exact hr
 | succ d ih =>
  intro i acc h1 h2
  have hi : i < xs.length := by omega
  rw [drop_cons_getD [] hi, List.flatMap_cons, ← List.append_assoc] at h2
  refine Ev.step (fun k => impl_trieOf.l0.eq_2 ..) (Ev.ifT (by omega) (Ev.ifT (by omega) (Ev.ifT (by rw [List.length_map]; omega) ?_)))
  rw [rdB xs i hi, size_B]
  have hlen : (acc ++ begs (xs.getD i [])).length ≤ 1000000 := by
   have := congrArg List.length h2
   rw [List.length_append, List.length_cons] at this
   omega
  exact trieOf_in ws0 xs _ (hw _ (getD_mem hi)) i (by omega) r _ (ih (i + 1) _ (by omega) h2) (xs.getD i []).length 0 acc (by omega) (by rw [begs_begF]) hlen
theorem at_take {P : List Txt} (hA : Asc P) (q : Txt) (j : Nat) (hj : j < P.length) (hq : P.getD j [] = q) : ∀ n, n ≤ P.length → j < n → SM.at_ (List.take n (P.map B)) (B q) = (j : Int) := by
 intro n
 induction n with
 | zero => intro _ h; omega
 | succ n ih =>
  intro h1 h2
  have hn : n < P.length := by omega
  rw [← List.map_take, take_succ_getD [] hn, List.map_append, List.map_singleton]
  unfold SM.at_
  rw [List.reverse_append, List.reverse_singleton, List.singleton_append, SM.atR, data_B, data_B]
  by_cases e : P.getD n [] = q
  ·
   have : n = j := asc_inj hA hn hj (e.trans hq.symm)
   rw [if_pos e, List.length_reverse, List.length_map, List.length_take]; omega
  ·
   have hjn : j < n := by
    rcases Nat.lt_or_ge j n with h | h
    ·
     exact h
    ·
     have : j = n := by omega
     subst this; exact absurd hq e
   rw [if_neg e, List.map_take]
   exact ih (by omega) hjn
theorem trieOf_nodes {ws P : List Txt} (hs : Srt ws) (hA : Asc P) (hC : Clo P) (hW : ∀ p ∈ P, wordL p = true) (hP : P.length ≤ 100000) (hl : ws.length ≤ 100000) : ∀ (d i : Nat) (acc : List Nd), i + d = P.length → acc.length ≤ i →
  Ev (fun k => impl_trieOf.l2 k (ws.map B) (P.map B) (P.length : Int) (i : Int) acc) (acc ++ ((P.drop i).map fun p => mkN (ndL P ws p))) := by
 intro d
 induction d with
 | zero =>
  intro i acc h1 h2
  rw [List.drop_of_length_le (by omega), List.map_nil, List.append_nil]
  exact Ev.step (fun k => impl_trieOf.l2.eq_2 ..) (Ev.ifF (by omega) (Ev.now _))
 | succ d ih =>
  intro i acc h1 h2
  have hi : i < P.length := by omega
  have hm := getD_mem hi
  rw [drop_cons_getD [] hi, List.map_cons]
  refine Ev.step (fun k => impl_trieOf.l2.eq_2 ..) (Ev.ifT (by omega) (Ev.ifT (by omega) (Ev.ifT (by rw [List.length_map]; omega) ?_)))
  rw [rdB P i hi]
  obtain ⟨q, _, _, _, hq⟩ := search_ev ws (P.getD i []) (by omega) hs
  refine Ev.bind hq ?_
  have hcons : ∀ x : Nd, acc ++ (x :: (P.drop (i + 1)).map fun p => mkN (ndL P ws p)) = (acc ++ [x]) ++ (P.drop (i + 1)).map fun p => mkN (ndL P ws p) := fun x => by simp
  rw [hcons, toList_B]
  by_cases hp : P.getD i [] = []
  ·
   refine Ev.ifT hp (Ev.ifT (by omega) ?_)
   have hx : mkN (ndL P ws (P.getD i [])) = ⟨-1, -1, decide (P.getD i [] ∈ ws)⟩ := by unfold mkN ndL; rw [if_pos hp, if_pos hp]
   rw [hx, wrap64_succ i (by omega)]
   exact ih (i + 1) _ (by omega) (by simp; omega)
  ·
   have h0 : 0 < i := by
    rcases Nat.eq_zero_or_pos i with e | e
    ·
     rw [e, (clo_zero hA hC).2] at hp; exact absurd rfl hp
    ·
     exact e
   have hlen := List.length_pos_iff.2 hp
   have h12 := (wordL_iff.1 (hW _ hm)).2
   obtain ⟨j1, j2⟩ := clo_parent hA hC hi h0
   have hw1 : wrap64 (((B (P.getD i [])).size : Int) - 1) = ((P.getD i []).length - 1 : Nat) := by rw [size_B, wrap64_id (by omega) (by omega)]; omega
   rw [hw1]
   refine Ev.ifF hp (Ev.ifT (by omega) (Ev.ifT (by rw [size_B]; omega) (Ev.ifT (by rw [size_B]; omega) (Ev.ifT (by omega) ?_))))
   rw [extract_B, List.drop_zero, Int.toNat_natCast, Int.toNat_natCast, Nat.sub_zero, ← List.dropLast_eq_take, at_take hA _ _ (by omega) j2 (i + 1) (by omega) (by omega)]
   have hx : mkN (ndL P ws (P.getD i [])) = ⟨((bt (B (P.getD i [])) (((P.getD i []).length - 1 : Nat) : Int)) - 97) % 256, (placeL P (P.getD i []).dropLast : Int), decide (P.getD i [] ∈ ws)⟩ := by
    unfold mkN ndL
    rw [if_neg hp, if_neg hp, bt_B _ _ (by omega)]
    rfl
   rw [hx, wrap64_succ i (by omega)]
   exact ih (i + 1) _ (by omega) (by simp; omega)
theorem trieOf_srt {ws : List Txt} (hs : Srt ws) (hw : ∀ w ∈ ws, wordL w = true) (hl : ws.length ≤ 1000) : Ev (fun k => impl_trieOf.f k (ws.map B)) (trN (preL ws) ws) := by
 have hle : ∀ w ∈ ws, w.length ≤ 12 := fun w h => (wordL_iff.1 (hw w h)).2
 have hpl := preL_length hle
 have hn := trieOf_nodes hs (asc_preL ws) (clo_preL ws) (fun p hp => preL_word hw hp) (by omega) (by omega) (preL ws).length 0 [] (by omega) (by simp)
 rw [List.drop_zero, List.nil_append] at hn
 have e : (preL ws).map (fun p => mkN (ndL (preL ws) ws p)) = trN (preL ws) ws := by unfold trN nodesL; rw [List.map_map]; rfl
 rw [e] at hn
 unfold impl_trieOf.f
 rw [List.length_map]
 exact trieOf_out ws ws hl hle _ hn ws.length 0 [[]] (by omega) rfl
theorem trieOf_ev {ws : List Txt} (h : OkW ws) : Ev (fun k => impl_trieOf.f k (ws.map B)) (trN (preL ws) ws) := trieOf_srt (srt_asc h.asc) h.word (by have := h.len; omega)
theorem trN_set {ws : List Txt} : trN (preL ws) ws = trN (preL (setL ws)) (setL ws) := by
 have e : preL (setL ws) = preL ws := preL_congr fun w => mem_setL ws w
 rw [e]
 unfold trN nodesL
 rw [List.map_map, List.map_map]
 refine List.map_congr_left fun p _ => ?_
 show mkN (ndL (preL ws) ws p) = mkN (ndL (preL ws) (setL ws) p)
 unfold ndL
 rw [show decide (p ∈ ws) = decide (p ∈ setL ws) from decide_eq_decide.2 (mem_setL ws p).symm]
def wordsGo : List Nd → List Txt → List Txt
 | n :: r, p :: ps => if n.f2 = true then p :: wordsGo r ps else wordsGo r ps
 | _, _ => []
theorem wordsGo_mem : ∀ (N : List Nd) (ps : List Txt) (w : Txt), w ∈ wordsGo N ps → w ∈ ps
 | n :: r, p :: ps, w, h => by
  unfold wordsGo at h
  by_cases hf : n.f2 = true
  ·
   rw [if_pos hf] at h
   rcases List.mem_cons.1 h with e | h
   ·
    rw [e]; exact List.mem_cons_self
   ·
    exact List.mem_cons_of_mem _ (wordsGo_mem r ps w h)
  ·
   rw [if_neg hf] at h
   exact List.mem_cons_of_mem _ (wordsGo_mem r ps w h)
 | [], _, _, h => by simp [wordsGo] at h
 | _ :: _, [], _, h => by simp [wordsGo] at h
theorem wordsGo_len : ∀ (N : List Nd) (ps : List Txt), (wordsGo N ps).length ≤ N.length
 | n :: r, p :: ps => by
  have := wordsGo_len r ps
  unfold wordsGo
  by_cases hf : n.f2 = true
  ·
   rw [if_pos hf, List.length_cons, List.length_cons]; omega
  ·
   rw [if_neg hf, List.length_cons]; omega
 | [], _ => by simp [wordsGo]
 | _ :: _, [] => by simp [wordsGo]
theorem wordsGo_tr (P ws : List Txt) : ∀ Q : List Txt, wordsGo (Q.map fun p => mkN (ndL P ws p)) Q = Q.filter fun p => decide (p ∈ ws)
 | [] => rfl
 | q :: Q => by
  rw [List.map_cons, wordsGo, wordsGo_tr P ws Q, List.filter_cons]
  rfl
theorem words_loop (N : List Nd) (ps : List Txt) (hN : N.length ≤ 1000000) (hp : ps.length = N.length) : ∀ (d i : Nat) (acc : List Txt), i + d = N.length → acc.length ≤ i →
  Ev (fun k => impl_Trie_words.l0 k (ps.map B) (acc.map B) N (N.length : Int) (i : Int)) ((acc ++ wordsGo (N.drop i) (ps.drop i)).map B) := by
 intro d
 induction d with
 | zero =>
  intro i acc h1 h2
  rw [List.drop_of_length_le (by omega)]
  exact Ev.step (fun k => impl_Trie_words.l0.eq_2 ..) (Ev.ifF (by omega) (by simpa [wordsGo] using Ev.now _))
 | succ d ih =>
  intro i acc h1 h2
  have hi : i < N.length := by omega
  rw [List.drop_eq_getElem_cons hi, drop_cons_getD [] (show i < ps.length by omega), wordsGo]
  refine Ev.step (fun k => impl_Trie_words.l0.eq_2 ..) (Ev.ifT (by omega) (Ev.ifT (by omega) (Ev.ifT (by omega) ?_)))
  rw [rd_get N i hi]
  by_cases hf : N[i].f2 = true
  ·
   rw [if_pos hf]
   refine Ev.ifT hf (Ev.ifT (by rw [List.length_map]; omega) (Ev.ifT (by rw [List.length_map]; omega) ?_))
   rw [rdB ps i (by omega), wrap64_succ i (by omega)]
   have := ih (i + 1) (acc ++ [ps.getD i []]) (by omega) (by simp; omega)
   rw [List.map_append (l₁ := acc), List.map_singleton, List.append_assoc] at this
   exact this
  ·
   rw [if_neg hf]
   refine Ev.ifF hf ?_
   rw [wrap64_succ i (by omega)]
   exact ih (i + 1) acc (by omega) (by omega)
theorem words_of {N : List Nd} {ps : List Txt} (h : prefN N = some ps) : N.length ≤ 481 ∧ ps.length = N.length ∧ (∀ p ∈ ps, ∀ c ∈ p, letterB c = true) ∧ Ev (fun k => impl_Trie_words.f k N) ((wordsGo N ps).map B) := by
 have hp := prefixes_ev N
 rw [h] at hp
 unfold prefN at h
 by_cases hn : 1 ≤ N.length ∧ N.length ≤ 481
 ·
  rw [if_pos hn] at h
  obtain ⟨h1, h2⟩ := prefGo_ok _ _ _ h (by simp)
  rw [List.length_drop, List.length_singleton] at h2
  refine ⟨hn.2, by omega, h1, ?_⟩
  unfold impl_Trie_words.f
  refine Ev.bind hp ?_
  exact words_loop N ps (by omega) (by omega) N.length 0 [] (by omega) (by simp)
 ·
  rw [if_neg hn] at h; cases h
theorem words_ev {ws : List Txt} (h : OkW ws) : Ev (fun k => impl_Trie_words.f k (trN (preL ws) ws)) (ws.map B) := by
 obtain ⟨_, _, _, h4⟩ := words_of (prefN_tr h)
 have e : wordsGo (trN (preL ws) ws) (preL ws) = ws := by
  have : trN (preL ws) ws = (preL ws).map fun p => mkN (ndL (preL ws) ws p) := by unfold trN nodesL; rw [List.map_map]; rfl
  rw [this, wordsGo_tr, filter_preL h.asc]
 rwa [e] at h4
theorem isSorted_loop (ws : List Txt) (hl : ws.length ≤ 4611686018427387903) : ∀ (n : Nat), n < ws.length → ∃ b : Bool, (b = true ↔ ∀ j, j < n → ¬ ws.getD (j + 1) [] < ws.getD j []) ∧ Ev (fun k => slices_IsSorted_string_string.l0 k (ws.map B) (n : Int)) b := by
 intro n
 induction n with
 | zero =>
  intro _
  exact ⟨true, by simp, Ev.step (fun k => slices_IsSorted_string_string.l0.eq_2 ..) (Ev.ifF (by simp) (Ev.now _))⟩
 | succ n ih =>
  intro hn
  have hw : wrap64 (((n + 1 : Nat) : Int) - 1) = (n : Int) := by rw [wrap64_id (by omega) (by omega)]; omega
  by_cases hlt : ws.getD (n + 1) [] < ws.getD n []
  ·
   refine ⟨false, ?_, Ev.step (fun k => slices_IsSorted_string_string.l0.eq_2 ..) (Ev.ifT (by omega) (Ev.ifT (by omega) (Ev.ifT (by rw [List.length_map]; omega) (Ev.ifT (by rw [hw]; omega) (Ev.ifT (by rw [hw, List.length_map]; omega) ?_)))))⟩
   ·
    simp only [Bool.false_eq_true, false_iff]
    exact fun h => h n (Nat.lt_succ_self n) hlt
   ·
    rw [hw, rdB ws (n + 1) hn, rdB ws n (by omega), less_eq, decide_eq_true hlt]
    exact Ev.some_bind (Ev.ifT rfl (Ev.now _))
  ·
   obtain ⟨b, hb, he⟩ := ih (by omega)
   refine ⟨b, hb.trans ⟨fun h j hj => ?_, fun h j hj => h j (by omega)⟩, Ev.step (fun k => slices_IsSorted_string_string.l0.eq_2 ..) (Ev.ifT (by omega) (Ev.ifT (by omega) (Ev.ifT (by rw [List.length_map]; omega) (Ev.ifT (by rw [hw]; omega) (Ev.ifT (by rw [hw, List.length_map]; omega) ?_)))))⟩
   ·
    by_cases e : j = n
    ·
     rw [e]; exact hlt
    ·
     exact h j (by omega)
   ·
    rw [hw, rdB ws (n + 1) hn, rdB ws n (by omega), less_eq, decide_eq_false hlt]
    exact Ev.some_bind (Ev.ifF Bool.false_ne_true he)
theorem isSorted_ev (ws : List Txt) (hl : ws.length ≤ 4611686018427387903) : ∃ b : Bool, (b = true ↔ Srt ws) ∧ Ev (fun k => slices_IsSorted_string_string.f k (ws.map B)) b := by
 unfold slices_IsSorted_string_string.f
 rcases Nat.eq_zero_or_pos ws.length with h0 | h0
 ·
  refine ⟨true, ⟨fun _ j hj => by omega, fun _ => rfl⟩, ?_⟩
  rw [List.length_map, h0]
  exact Ev.step (fun k => slices_IsSorted_string_string.l0.eq_2 ..) (Ev.ifF (by rw [wrap64_id (by omega) (by omega)]; omega) (Ev.now _))
 ·
  obtain ⟨b, hb, he⟩ := isSorted_loop ws hl (ws.length - 1) (by omega)
  refine ⟨b, hb.trans ⟨fun h j hj => h j (by omega), fun h j hj => h j (by omega)⟩, ?_⟩
  rw [List.length_map, show wrap64 ((ws.length : Int) - 1) = ((ws.length - 1 : Nat) : Int) from by rw [wrap64_id (by omega) (by omega)]; omega]
  exact he
theorem equal_loop (M N : List Nd) (hM : M.length ≤ 4611686018427387903) (he : M.length = N.length) : ∀ (d i : Nat), i + d = M.length → Ev (fun k => impl_Node.l0 k M N (M.length : Int) (i : Int)) (decide (M.drop i = N.drop i)) := by
 intro d
 induction d with
 | zero =>
  intro i h1
  refine Ev.step (fun k => impl_Node.l0.eq_2 ..) (Ev.ifF (by omega) ?_)
  rw [decide_eq_true (show M.drop i = N.drop i by rw [List.drop_of_length_le (by omega), List.drop_of_length_le (by omega)])]
  exact Ev.now _
 | succ d ih =>
  intro i h1
  refine Ev.step (fun k => impl_Node.l0.eq_2 ..) (Ev.ifT (by omega) (Ev.ifT (by omega) (Ev.ifT (by omega) (Ev.ifT (by omega) ?_))))
  rw [node_ne, rd_get M i (by omega), rd_get N i (by omega), List.drop_eq_getElem_cons (show i < M.length by omega), List.drop_eq_getElem_cons (show i < N.length by omega)]
  by_cases e : M[i] = N[i]
  ·
   refine Ev.ifF (by simp [e]) ?_
   rw [wrap64_succ i (by omega), show decide (M[i] :: M.drop (i + 1) = N[i] :: N.drop (i + 1)) = decide (M.drop (i + 1) = N.drop (i + 1)) from decide_eq_decide.2 ⟨fun h => (List.cons.inj h).2, fun h => by rw [e, h]⟩]
   exact ih (i + 1) (by omega)
  ·
   refine Ev.ifT (by simp [e]) ?_
   rw [show decide (M[i] :: M.drop (i + 1) = N[i] :: N.drop (i + 1)) = false from decide_eq_false fun h => e (List.cons.inj h).1]
   exact Ev.now _
theorem equal_ev (M N : List Nd) (hM : M.length ≤ 4611686018427387903) : Ev (fun k => impl_Node.f k M N) (decide (M = N)) := by
 unfold impl_Node.f
 by_cases he : M.length = N.length
 ·
  refine Ev.ifT (by omega) ?_
  have := equal_loop M N hM he M.length 0 (by omega)
  rwa [List.drop_zero, List.drop_zero] at this
 ·
  rw [decide_eq_false fun e => he (by rw [e])]
  exact Ev.ifF (by omega) (Ev.now _)
theorem isTrie_ev (N : List Nd) : ∃ b : Bool, (b = true ↔ IsTr N) ∧ Ev (fun k => impl_isTrie.f k N) b := by
 have hpre := prefixes_ev N
 have no : ∀ M : List Nd, Ev (fun k => impl_isTrie.j0 k true M) false := fun M => Ev.step (fun k => impl_isTrie.j0.eq_2 ..) (Ev.ifT rfl (Ev.now _))
 cases hp : prefN N with
 | none =>
  rw [hp] at hpre
  refine ⟨false, ?_, ?_⟩
  ·
   simp only [Bool.false_eq_true, false_iff]
   rintro ⟨ws, h, rfl⟩
   rw [prefN_tr h] at hp; cases hp
  ·
   unfold impl_isTrie.f
   exact Ev.bind hpre (Ev.ifF Bool.false_ne_true (no N))
 | some ps =>
  rw [hp] at hpre
  obtain ⟨w1, w2, w3, w4⟩ := words_of hp
  have hany : impl_isTrie_any.f (ps.map B) = some (decide (∃ p ∈ ps, 12 < p.length)) := by
   unfold impl_isTrie_any.f
   congr 1
   rw [Bool.eq_iff_iff, List.any_eq_true, decide_eq_true_eq]
   constructor
   ·
    rintro ⟨x, hx, e⟩
    obtain ⟨y, hy, rfl⟩ := List.mem_map.1 hx
    refine ⟨y, hy, ?_⟩
    unfold impl_isTrie_any.p at e
    rw [size_B, decide_eq_true_eq] at e
    omega
   ·
    rintro ⟨y, hy, e⟩
    refine ⟨B y, List.mem_map.2 ⟨y, hy, rfl⟩, ?_⟩
    unfold impl_isTrie_any.p
    rw [size_B, decide_eq_true_eq]
    omega
  by_cases hlong : ∃ p ∈ ps, 12 < p.length
  ·
   rw [decide_eq_true hlong] at hany
   refine ⟨false, ?_, ?_⟩
   ·
    simp only [Bool.false_eq_true, false_iff]
    rintro ⟨ws, h, rfl⟩
    rw [prefN_tr h] at hp
    obtain rfl := Option.some.inj hp
    obtain ⟨p, hpm, hpl⟩ := hlong
    have := (wordL_iff.1 (preL_word h.word hpm)).2
    omega
   ·
    unfold impl_isTrie.f
    refine Ev.bind hpre (Ev.ifT rfl ?_)
    show Ev (fun k => (impl_isTrie_any.f (ps.map B)).bind _) false
    rw [hany]
    exact Ev.some_bind (no N)
  ·
   rw [decide_eq_false hlong] at hany
   have hword : ∀ w ∈ wordsGo N ps, wordL w = true := fun w hw => by
    have hm := wordsGo_mem N ps w hw
    refine wordL_iff.2 ⟨w3 w hm, ?_⟩
    rcases Nat.lt_or_ge 12 w.length with h | h
    ·
     exact absurd ⟨w, hm, h⟩ hlong
    ·
     exact h
   have hwl := wordsGo_len N ps
   have hcase : ∀ b : Bool, Ev (fun k => impl_isTrie.j0 k false N) b → Ev (fun k => impl_isTrie.f k N) b := fun b hb => by
    unfold impl_isTrie.f
    refine Ev.bind hpre (Ev.ifT rfl ?_)
    show Ev (fun k => (impl_isTrie_any.f (ps.map B)).bind _) b
    rw [hany]
    exact Ev.some_bind hb
   have hval : ∀ ws, OkW ws → N = trN (preL ws) ws → wordsGo N ps = ws := fun ws h e => by
    subst e
    rw [prefN_tr h] at hp
    obtain rfl := Option.some.inj hp
    have : trN (preL ws) ws = (preL ws).map fun p => mkN (ndL (preL ws) ws p) := by unfold trN nodesL; rw [List.map_map]; rfl
    rw [this, wordsGo_tr, filter_preL h.asc]
   by_cases h40 : (wordsGo N ps).length ≤ 40
   ·
    obtain ⟨b, hb, hsv⟩ := isSorted_ev (wordsGo N ps) (by omega)
    by_cases hs : Srt (wordsGo N ps)
    ·
     have hbt := hb.2 hs
     subst hbt
     refine ⟨decide (trN (preL (wordsGo N ps)) (wordsGo N ps) = N), ?_, hcase _ ?_⟩
     ·
      rw [decide_eq_true_eq]
      constructor
      ·
       intro e
       refine ⟨setL (wordsGo N ps), ⟨asc_setL _, Nat.le_trans (setL_length_le _) h40, fun w hw => hword w ((mem_setL _ w).1 hw)⟩, ?_⟩
       rw [← trN_set, e]
      ·
       rintro ⟨ws, h, e⟩
       rw [hval ws h e, e]
     ·
      refine Ev.step (fun k => impl_isTrie.j0.eq_2 ..) (Ev.ifF Bool.false_ne_true (Ev.bind w4 (Ev.ifT (by rw [List.length_map]; omega) (Ev.bind hsv (Ev.ifT rfl (Ev.bind (trieOf_srt hs hword (by omega)) (Ev.bind (equal_ev _ _ ?_) (Ev.now _))))))))
      rw [trN_length]
      have := preL_length (ws := wordsGo N ps) (fun w hw => (wordL_iff.1 (hword w hw)).2)
      omega
    ·
     have hbf : b = false := by
      cases b with
      | false => rfl
      | true => exact absurd (hb.1 rfl) hs
     subst hbf
     refine ⟨false, ?_, hcase _ (Ev.step (fun k => impl_isTrie.j0.eq_2 ..) (Ev.ifF Bool.false_ne_true (Ev.bind w4 (Ev.ifT (by rw [List.length_map]; omega) (Ev.bind hsv (Ev.ifF Bool.false_ne_true (Ev.now _)))))))⟩
     simp only [Bool.false_eq_true, false_iff]
     rintro ⟨ws, h, e⟩
     exact hs (by rw [hval ws h e]; exact srt_asc h.asc)
   ·
    refine ⟨false, ?_, hcase _ (Ev.step (fun k => impl_isTrie.j0.eq_2 ..) (Ev.ifF Bool.false_ne_true (Ev.bind w4 (Ev.ifF (by rw [List.length_map]; omega) (Ev.now _)))))⟩
    simp only [Bool.false_eq_true, false_iff]
    rintro ⟨ws, h, e⟩
    rw [hval ws h e] at h40
    exact h40 h.len
theorem eqNode_self (a b : Int) (c : Bool) : laws_eqNode.f a b c a b c = some true := by
 unfold laws_eqNode.f
 rw [if_pos rfl, if_pos rfl, if_neg (by simp)]
theorem eqNodeS_loop (N : List Nd) (hN : N.length ≤ 4611686018427387903) : ∀ (d i : Nat), i + d = N.length → Ev (fun k => laws_eqNodeS.l0 k N N (i : Int)) true := by
 intro d
 induction d with
 | zero => intro i h; exact Ev.step (fun k => laws_eqNodeS.l0.eq_2 ..) (Ev.ifF (by omega) (Ev.now _))
 | succ d ih =>
  intro i h
  refine Ev.step (fun k => laws_eqNodeS.l0.eq_2 ..) (Ev.ifT (by omega) (Ev.ifT (by omega) (Ev.ifT (by omega) ?_)))
  rw [eqNode_self]
  refine Ev.some_bind (Ev.ifT rfl ?_)
  rw [wrap64_succ i (by omega)]
  exact ih (i + 1) (by omega)
theorem eqTrie_ev (N : List Nd) (hN : N.length ≤ 4611686018427387903) : Ev (fun k => laws_eqTrie.f k N N) true := by
 unfold laws_eqTrie.f laws_eqNodeS.f
 exact Ev.bind (f := fun k t => if t = true then some true else some false) (Ev.ifT rfl (eqNodeS_loop N hN N.length 0 (by omega))) (Ev.ifT rfl (Ev.now _))
def toN (l : List S62) : List Nd := l.map fun x => ⟨x.f0, x.f1, x.f2⟩
theorem toN_length (l : List S62) : (toN l).length = l.length := by simp [toN]
theorem szTrie_eq (l : List S62) (h : l.length ≤ 9223372036854775807) : laws_szTrie.f l 1048576 = some (if l.length ≤ 1048576 then 1048576 - (l.length : Int) else -1) := by
 unfold laws_szTrie.f laws_szNodeS.f
 rw [wrap64_id (by omega) (by omega)]
 by_cases hs : l.length ≤ 1048576
 ·
  rw [if_neg (by omega), if_pos hs, Option.bind_some, if_neg (by omega)]
 ·
  rw [if_pos (by omega), if_neg hs, Option.bind_some, if_pos (by omega)]
theorem toNodeS_loop (l : List S62) (hl : l.length ≤ 1048576) : ∀ (d i : Nat), i + d = l.length → Ev (fun k => laws_toNodeS.l0 k l ((toN l).take i ++ List.replicate ((toN l).length - i) z58) (i : Int)) (toN l) := by
 intro d
 induction d with
 | zero =>
  intro i h
  rw [List.take_of_length_le (by rw [toN_length]; omega), show (toN l).length - i = 0 from by rw [toN_length]; omega, List.replicate_zero, List.append_nil]
  exact Ev.step (fun k => laws_toNodeS.l0.eq_2 ..) (Ev.ifF (by omega) (Ev.now _))
 | succ d ih =>
  intro i h
  have hi : i < l.length := by omega
  have hi2 : i < (toN l).length := by rw [toN_length]; exact hi
  have hlen : ((toN l).take i ++ List.replicate ((toN l).length - i) z58).length = l.length := by
   rw [List.length_append, List.length_take, List.length_replicate, toN_length]; omega
  refine Ev.step (fun k => laws_toNodeS.l0.eq_2 ..) (Ev.ifT (by omega) (Ev.ifT (by omega) ?_))
  unfold laws_toNode.f
  refine Ev.some_bind (Ev.ifT (by rw [hlen]; omega) ?_)
  have hx : (⟨(rd_T62 l (i : Int)).f0, (rd_T62 l (i : Int)).f1, (rd_T62 l (i : Int)).f2⟩ : Nd) = (toN l).getD i z58 := by
   unfold rd_T62 toN
   rw [Int.toNat_natCast, getD_lt _ hi, getD_lt _ (by simpa using hi), List.getElem_map]
  rw [hx, Int.toNat_natCast, fill_set _ _ _ hi2, wrap64_succ i (by omega)]
  exact ih (i + 1) (by omega)
theorem toTrie_ev (l : List S62) (hl : l.length ≤ 1048576) : Ev (fun k => laws_toTrie.f k l) (toN l) := by
 unfold laws_toTrie.f laws_toNodeS.f
 refine Ev.bind (f := fun k t => some t) (Ev.ifT (by omega) (Ev.ifT (by omega) ?_)) (Ev.now _)
 have := toNodeS_loop l hl l.length 0 (by omega)
 rw [List.take_zero, List.nil_append, toN_length, Nat.sub_zero] at this
 exact this
theorem trie_both (N : List Nd) : (IsTr N ∧ Ev (fun k => spec_l2Trie.f k N) true ∧ Ev (fun k => impl_isTrie.f k N) true) ∨ (¬ IsTr N ∧ Ev (fun k => spec_l2Trie.f k N) false ∧ Ev (fun k => impl_isTrie.f k N) false) := by
 obtain ⟨b1, c1, e1⟩ := l2Trie_ev N
 obtain ⟨b2, c2, e2⟩ := isTrie_ev N
 by_cases h : IsTr N
 ·
  obtain rfl := c1.2 h
  obtain rfl := c2.2 h
  exact .inl ⟨h, e1, e2⟩
 ·
  cases b1 with
  | true => exact absurd (c1.1 rfl) h
  | false =>
   cases b2 with
   | true => exact absurd (c2.1 rfl) h
   | false => exact .inr ⟨h, e1, e2⟩
def mkNode (j : Nat) : Nd := ⟨3 * (j : Int) + 1, 3 * (j : Int) + 2, true⟩
def marksN (n : Nat) (l : List Nd) : List Nd := (List.range n).map mkNode ++ l.drop n
theorem marksN_length (n : Nat) (l : List Nd) (h : n ≤ l.length) : (marksN n l).length = l.length := by simp [marksN]; omega
theorem marksN_set (n : Nat) (l : List Nd) (h : n < l.length) : (marksN n l).set n (mkNode n) = marksN (n + 1) l := by
 unfold marksN
 rw [List.set_append_right _ _ (by simp), show ((List.range n).map mkNode).length = n from by simp, Nat.sub_self, drop_cons_getD z58 h, List.set_cons_zero, List.range_succ, List.map_append, List.append_assoc]
 rfl
theorem rdN_set (l : List Nd) (n : Nat) (h : n < l.length) (v : Nd) : rd_T58 (l.set n v) (n : Int) = v := by
 rw [rd_get _ n (by rw [List.length_set]; exact h), List.getElem_set_self]
theorem three_mod (n : Nat) (h : n ≤ 1000000000) : (Int.tmod (wrap64 ((wrap64 ((3 * (n : Int) + 1) + 1)) + 1)) 3 == 0) = true := by
 rw [wrap64_id (x := 3 * (n : Int) + 1 + 1) (by omega) (by omega), wrap64_id (by omega) (by omega), beq_iff_eq, Int.tmod_eq_emod_of_nonneg (by omega)]
 omega
theorem markNodeS_loop (l : List Nd) (hl : l.length ≤ 1000000000) : ∀ (d n : Nat), n + d = l.length → Ev (fun k => laws_markNodeS.l0 k (marksN n l) (3 * (n : Int) + 1) (n : Int)) (3 * (l.length : Int) + 1, marksN l.length l) := by
 intro d
 induction d with
 | zero =>
  intro n hn
  refine Ev.step (fun k => laws_markNodeS.l0.eq_2 ..) (Ev.ifF (by rw [marksN_length n l (by omega)]; omega) ?_)
  rw [show n = l.length from by omega]; exact Ev.now _
 | succ d ih =>
  intro n hn
  have h1 : n < (marksN n l).length := by rw [marksN_length n l (by omega)]; omega
  refine Ev.step (fun k => laws_markNodeS.l0.eq_2 ..) (Ev.ifT (by omega) (Ev.ifT (by omega) (Ev.some_bind (Ev.some_bind ?_))))
  have := ih (n + 1) (by omega)
  rw [← marksN_set n l (by omega)] at this
  rw [Int.toNat_natCast]
  rw [rdN_set _ n h1, rdN_set _ n (by rw [List.length_set]; exact h1), List.set_set, List.set_set, three_mod n (by omega)]
  rw [show wrap64 ((wrap64 ((wrap64 (3 * (n : Int) + 1 + 1)) + 1)) + 1) = 3 * ((n + 1 : Nat) : Int) + 1 from by rw [wrap64_id (x := 3 * (n : Int) + 1 + 1) (by omega) (by omega), wrap64_id (x := 3 * (n : Int) + 1 + 1 + 1) (by omega) (by omega), wrap64_id (by omega) (by omega)]; omega, wrap64_succ n (by omega), show wrap64 (3 * (n : Int) + 1 + 1) = 3 * (n : Int) + 2 from by rw [wrap64_id (by omega) (by omega)]; omega]
  exact this
theorem markTrie_ev (l : List Nd) (hl : l.length ≤ 1000000000) : Ev (fun k => laws_markTrie.f k l 1) (3 * (l.length : Int) + 1, marksN l.length l) := by
 have := markNodeS_loop l hl l.length 0 (by omega)
 unfold laws_markTrie.f laws_markNodeS.f
 exact Ev.bind this (Ev.now _)
end Go.Proofs.Ytpgobnhklnglhaa.L
namespace Go.Proofs.Ytpgobnhklnglhaa.M
def nxR (i : Nat) (c : UInt8) (b : Txt) (last : List Nat) : Nat → List Nat
 | 0 => [i + 1]
 | j + 1 => nxR i c b last j ++ [min (last.getD j 0 + if c = b.getD j 0 then 0 else 1) (min (last.getD (j + 1) 0 + 1) ((nxR i c b last j).getD j 0 + 1))]
theorem nxR_length (i : Nat) (c : UInt8) (b : Txt) (last : List Nat) : ∀ j, (nxR i c b last j).length = j + 1
 | 0 => rfl
 | j + 1 => by rw [nxR, List.length_append, nxR_length i c b last j]; rfl
def rowR (a b : Txt) : Nat → List Nat
 | 0 => List.range (b.length + 1)
 | i + 1 => nxR i (a.getD i 0) b (rowR a b i) b.length
theorem rowR_length (a b : Txt) : ∀ i, (rowR a b i).length = b.length + 1
 | 0 => by rw [rowR, List.length_range]
 | i + 1 => by rw [rowR, nxR_length]
theorem nxR_bd (i : Nat) (c : UInt8) (b : Txt) (last : List Nat) (M : Nat) (hi : i ≤ M) (hl : ∀ j, last.getD j 0 ≤ M) : ∀ j m, (nxR i c b last j).getD m 0 ≤ M + 1
 | 0, m => by
  cases m with
  | zero => show i + 1 ≤ _; omega
  | succ m => show 0 ≤ _; omega
 | j + 1, m => by
  have ih := nxR_bd i c b last M hi hl j
  rw [nxR]
  by_cases h : m < j + 1
  ·
   rw [List.getD_eq_getElem?_getD, List.getElem?_append_left (by rw [nxR_length]; exact h), ← List.getD_eq_getElem?_getD]; exact ih m
  ·
   rw [List.getD_eq_getElem?_getD, List.getElem?_append_right (by rw [nxR_length]; omega), nxR_length]
   by_cases h2 : m = j + 1
   ·
    subst h2
    rw [Nat.sub_self]
    have h3 := hl j
    show min _ _ ≤ _
    refine Nat.le_trans (Nat.min_le_left _ _) ?_
    split <;> omega
   ·
    rw [List.getElem?_eq_none (by simp; omega)]
    show 0 ≤ _; omega
theorem rowR_bd (a b : Txt) : ∀ i m, (rowR a b i).getD m 0 ≤ b.length + i
 | 0, m => by
  rw [rowR, List.getD_eq_getElem?_getD]
  by_cases h : m < b.length + 1
  ·
   rw [List.getElem?_range h]; show m ≤ _; omega
  ·
   rw [List.getElem?_eq_none (by rw [List.length_range]; omega)]; show 0 ≤ _; omega
 | i + 1, m => by
  have := nxR_bd i (a.getD i 0) b (rowR a b i) (b.length + i) (by omega) (rowR_bd a b i) b.length m
  rw [rowR]; omega
def distL (a b : Txt) : Nat := (rowR a b a.length).getD b.length 0
theorem distL_bd (a b : Txt) : distL a b ≤ b.length + a.length := rowR_bd a b a.length b.length
end Go.Proofs.Ytpgobnhklnglhaa.M
namespace Go.Proofs.Ytpgobnhklnglhaa.L
open Go.RowKit Go.Proofs.Ytpgobnhklnglhaa.P Go.Proofs.Ytpgobnhklnglhaa.M Go.Proofs.YtpgobnhklnglhaaW.PrintWords Go.Proofs.YtpgobnhklnglhaaW.PrintLast Go.Proofs.YtpgobnhklnglhaaW.PrintMore
set_option linter.unusedVariables false
def nI (l : List Nat) : List Int := l.map fun x : Nat => (x : Int)
theorem nI_length (l : List Nat) : (nI l).length = l.length := by simp [nI]
theorem nI_append (l m : List Nat) : nI (l ++ m) = nI l ++ nI m := by simp [nI]
theorem rd_nI (l : List Nat) (n : Nat) : rd (nI l) (n : Int) = ((l.getD n 0 : Nat) : Int) := by
 rw [rd_nat]
 unfold nI
 rw [List.getD_eq_getElem?_getD, List.getD_eq_getElem?_getD, List.getElem?_map]
 cases l[n]? <;> rfl
theorem bt_same (a b : Txt) (n m : Nat) (h : n < a.length) (h2 : m < b.length) : bt (B a) (n : Int) = bt (B b) (m : Int) ↔ a.getD n 0 = b.getD m 0 := by
 rw [bt_B a n h, bt_B b m h2]
 constructor
 ·
  intro e
  exact UInt8.toNat_inj.1 (by omega)
 ·
  intro e
  rw [e]
theorem wrapI {n : Nat} (h : n ≤ 9223372036854775807) : wrap64 (n : Int) = (n : Int) := wrap64_id (by omega) (by omega)
theorem wrapS {n : Nat} (h : n ≤ 1000000) : wrap64 ((n : Int) + 1) = ((n + 1 : Nat) : Int) := wrap64_succ n (by omega)
theorem wrapP {n : Nat} (h : n ≤ 1000000) : wrap64 (((n + 1 : Nat) : Int) - 1) = (n : Int) := by rw [wrap64_id (by omega) (by omega)]; omega
theorem mn_nat (x y : Nat) : mn (x : Int) (y : Int) = ((min x y : Nat) : Int) := by unfold mn; omega
theorem imp_cols (a b : Txt) (hb : b.length ≤ 1000) (i : Nat) (hi : i < a.length) (hi2 : i ≤ 1000) (last : List Nat) (hl : last.length = b.length + 1) (hbd : ∀ j, last.getD j 0 ≤ 10000) (r : Int) (n24 : Int)
  (hr : Ev (fun k => impl_distance.l1 k (B a) (B b) (nI (nxR i (a.getD i 0) b last b.length)) n24 ((i + 1 : Nat) : Int)) r) : ∀ (d j : Nat), j + d = b.length → Ev (fun k => impl_distance.l2 k (B a) (B b) (nI last) (i : Int) (nI (nxR i (a.getD i 0) b last j)) n24 (i : Int) (b.length : Int) (j : Int)) r := by
 intro d
 induction d with
 | zero =>
  intro j q
  obtain rfl : j = b.length := by omega
  refine Ev.step (fun k => impl_distance.l2.eq_2 ..) (Ev.ifF (by omega) ?_)
  rw [wrapS (by omega)]
  exact hr
 | succ d ih =>
  intro j q
  have hx := nxR_length i (a.getD i 0) b last j
  have hB := nxR_bd i (a.getD i 0) b last 10000 (by omega) hbd j j
  have h1 := hbd j
  have h2 := hbd (j + 1)
  have hn := ih (j + 1) (by omega)
  rw [nxR, nI_append] at hn
  refine Ev.step (fun k => impl_distance.l2.eq_2 ..) (Ev.ifT (by omega) (Ev.ifT (by omega) (Ev.ifT (by rw [nI_length]; omega) (Ev.ifT (by omega) (Ev.ifT (by rw [size_B]; omega) (Ev.ifT (by rw [size_B]; omega) ?_))))))
  rw [wrapS (n := j) (by omega)]
  by_cases e : a.getD i 0 = b.getD j 0
  ·
   refine Ev.ifT ((bt_same a b i j hi (by omega)).2 e) (Ev.ifT (by omega) (Ev.ifT (by rw [nI_length]; omega) (Ev.ifT (by rw [nI_length]; omega) (Ev.ifT (by rw [nI_length]; omega) ?_))))
   rw [rd_nI, rd_nI, rd_nI, wrapS (by omega), wrapS (by omega), mn_nat, mn_nat]
   rw [if_pos e, Nat.add_zero] at hn
   rw [Nat.min_assoc]
   exact hn
  ·
   refine Ev.ifF (fun q => e ((bt_same a b i j hi (by omega)).1 q)) (Ev.ifT (by omega) (Ev.ifT (by rw [nI_length]; omega) (Ev.ifT (by rw [nI_length]; omega) (Ev.ifT (by rw [nI_length]; omega) ?_))))
   rw [rd_nI, rd_nI, rd_nI, wrapS (by omega), wrapS (by omega), wrapS (by omega), mn_nat, mn_nat]
   rw [if_neg e] at hn
   rw [Nat.min_assoc]
   exact hn
theorem imp_rows (a b : Txt) (ha : a.length ≤ 1000) (hb : b.length ≤ 1000) : ∀ (d i : Nat), i + d = a.length → Ev (fun k => impl_distance.l1 k (B a) (B b) (nI (rowR a b i)) (a.length : Int) (i : Int)) (distL a b : Int) := by
 intro d
 induction d with
 | zero =>
  intro i q
  obtain rfl : i = a.length := by omega
  refine Ev.step (fun k => impl_distance.l1.eq_2 ..) (Ev.ifF (by omega) (Ev.ifT (by omega) (Ev.ifT (by rw [size_B, nI_length, rowR_length]; omega) ?_)))
  rw [size_B, rd_nI]
  exact Ev.now _
 | succ d ih =>
  intro i q
  have hn := ih (i + 1) (by omega)
  rw [rowR] at hn
  refine Ev.step (fun k => impl_distance.l1.eq_2 ..) (Ev.ifT (by omega) ?_)
  rw [size_B, wrapS (by omega)]
  exact imp_cols a b hb i (by omega) (by omega) (rowR a b i) (rowR_length a b i) (fun j => Nat.le_trans (rowR_bd a b i j) (by omega)) _ _ hn b.length 0 (by omega)
theorem range_I (n : Nat) : nI (List.range (n + 1)) = nI (List.range n) ++ [(n : Int)] := by rw [List.range_succ, nI_append]; rfl
theorem distance_ev' (a b : Txt) (ha : a.length ≤ 1000) (hb : b.length ≤ 1000) : Ev (fun k => impl_distance.f k (B a) (B b)) (distL a b : Int) := by
 have h0 := imp_rows a b ha hb a.length 0 (by omega)
 have loop : ∀ (d j : Nat), j + d = b.length + 1 → Ev (fun k => impl_distance.l0 k (B a) (B b) (nI (List.range j)) ((b.length + 1 : Nat) : Int) (j : Int)) (distL a b : Int) := by
  intro d
  induction d with
  | zero =>
   intro j q
   obtain rfl : j = b.length + 1 := by omega
   refine Ev.step (fun k => impl_distance.l0.eq_2 ..) (Ev.ifF (by omega) ?_)
   rw [size_B]
   exact h0
  | succ d ih =>
   intro j q
   have := ih (j + 1) (by omega)
   rw [range_I] at this
   refine Ev.step (fun k => impl_distance.l0.eq_2 ..) (Ev.ifT (by omega) (Ev.ifT (by rw [nI_length, List.length_range]; omega) ?_))
   rw [wrapS (by omega)]
   exact this
 unfold impl_distance.f
 rw [size_B, wrapS (by omega)]
 exact loop (b.length + 1) 0 (by omega)
theorem distance_ev (a b : Txt) (ha : a.length ≤ 12) (hb : b.length ≤ 12) : Ev (fun k => impl_distance.f k (B a) (B b)) (distL a b : Int) := distance_ev' a b (by omega) (by omega)
theorem least_nat (x y : Nat) : spec_l1Least.f (x : Int) (y : Int) = some ((min x y : Nat) : Int) := by
 unfold spec_l1Least.f
 by_cases h : (x : Int) < (y : Int)
 ·
  rw [if_pos h]; congr 1; omega
 ·
  rw [if_neg h]; congr 1; omega
theorem min3 (p q s : Nat) : min p (1 + min q s) = min p (min (q + 1) (s + 1)) := by omega
theorem spe_cols (a b : Txt) (hb : b.length ≤ 1000) (i : Nat) (hi : i < a.length) (hi2 : i ≤ 1000) (last : List Nat) (hl : last.length = b.length + 1) (hbd : ∀ j, last.getD j 0 ≤ 10000) (r : Int)
  (hr : Ev (fun k => spec_l6Distance.l1 k (B a) (B b) (nI (nxR i (a.getD i 0) b last b.length)) ((i + 1 + 1 : Nat) : Int)) r) : ∀ (d j : Nat), j + d = b.length → Ev (fun k => spec_l6Distance.l2 k (B a) (B b) (nI last) ((i + 1 : Nat) : Int) (nI (nxR i (a.getD i 0) b last j)) ((j + 1 : Nat) : Int)) r := by
 intro d
 induction d with
 | zero =>
  intro j q
  obtain rfl : j = b.length := by omega
  refine Ev.step (fun k => spec_l6Distance.l2.eq_2 ..) (Ev.ifF (by rw [size_B]; omega) ?_)
  rw [wrapS (by omega)]
  exact hr
 | succ d ih =>
  intro j q
  have hx := nxR_length i (a.getD i 0) b last j
  have hB := nxR_bd i (a.getD i 0) b last 10000 (by omega) hbd j j
  have h1 := hbd j
  have h2 := hbd (j + 1)
  have hn := ih (j + 1) (by omega)
  rw [nxR, nI_append] at hn
  refine Ev.step (fun k => spec_l6Distance.l2.eq_2 ..) (Ev.ifT (by rw [size_B]; omega) ?_)
  rw [wrapP (n := j) (by omega), wrapP (n := i) (by omega)]
  refine Ev.ifT (by omega) (Ev.ifT (by rw [nI_length]; omega) (Ev.ifT (by omega) (Ev.ifT (by rw [size_B]; omega) (Ev.ifT (by rw [size_B]; omega) ?_))))
  by_cases e : a.getD i 0 = b.getD j 0
  ·
   refine Ev.ifT ((bt_same a b i j hi (by omega)).2 e) (Ev.ifT (by omega) (Ev.ifT (by rw [nI_length]; omega) (Ev.ifT (by rw [nI_length]; omega) ?_)))
   rw [rd_nI, rd_nI, rd_nI, least_nat]
   refine Ev.some_bind ?_
   rw [← Int.natCast_one, ← Int.natCast_add, wrapI (by omega), least_nat]
   refine Ev.some_bind (Ev.ifT (by rw [nI_length]; omega) ?_)
   rw [if_pos e, Nat.add_zero] at hn
   rw [Int.natCast_one, wrapS (by omega), min3]
   exact hn
  ·
   refine Ev.ifF (fun q => e ((bt_same a b i j hi (by omega)).1 q)) (Ev.ifT (by omega) (Ev.ifT (by rw [nI_length]; omega) (Ev.ifT (by rw [nI_length]; omega) ?_)))
   rw [rd_nI, rd_nI, rd_nI, least_nat]
   refine Ev.some_bind ?_
   rw [wrapS (n := last.getD j 0) (by omega), ← Int.natCast_one, ← Int.natCast_add, wrapI (by omega), least_nat]
   refine Ev.some_bind (Ev.ifT (by rw [nI_length]; omega) ?_)
   rw [if_neg e] at hn
   rw [Int.natCast_one, wrapS (by omega), min3]
   exact hn
theorem spe_rows (a b : Txt) (ha : a.length ≤ 1000) (hb : b.length ≤ 1000) : ∀ (d i : Nat), i + d = a.length → Ev (fun k => spec_l6Distance.l1 k (B a) (B b) (nI (rowR a b i)) ((i + 1 : Nat) : Int)) (distL a b : Int) := by
 intro d
 induction d with
 | zero =>
  intro i q
  obtain rfl : i = a.length := by omega
  refine Ev.step (fun k => spec_l6Distance.l1.eq_2 ..) (Ev.ifF (by rw [size_B]; omega) (Ev.ifT (by omega) (Ev.ifT (by rw [size_B, nI_length, rowR_length]; omega) ?_)))
  rw [size_B, rd_nI]
  exact Ev.now _
 | succ d ih =>
  intro i q
  have hn := ih (i + 1) (by omega)
  rw [rowR] at hn
  refine Ev.step (fun k => spec_l6Distance.l1.eq_2 ..) (Ev.ifT (by rw [size_B]; omega) ?_)
  exact spe_cols a b hb i (by omega) (by omega) (rowR a b i) (rowR_length a b i) (fun j => Nat.le_trans (rowR_bd a b i j) (by omega)) _ hn b.length 0 (by omega)
theorem l6Distance_ev (a b : Txt) (ha : a.length ≤ 12) (hb : b.length ≤ 12) : Ev (fun k => spec_l6Distance.f k (B a) (B b)) (distL a b : Int) := by
 have h0 := spe_rows a b (by omega) (by omega) a.length 0 (by omega)
 have loop : ∀ (d j : Nat), j + d = b.length + 1 → Ev (fun k => spec_l6Distance.l0 k (B a) (B b) (nI (List.range j)) (j : Int)) (distL a b : Int) := by
  intro d
  induction d with
  | zero =>
   intro j q
   obtain rfl : j = b.length + 1 := by omega
   exact Ev.step (fun k => spec_l6Distance.l0.eq_2 ..) (Ev.ifF (by rw [size_B]; omega) h0)
  | succ d ih =>
   intro j q
   have := ih (j + 1) (by omega)
   rw [range_I] at this
   refine Ev.step (fun k => spec_l6Distance.l0.eq_2 ..) (Ev.ifT (by rw [size_B]; omega) (Ev.ifT (by rw [nI_length, List.length_range]; omega) ?_))
   rw [wrapS (by omega)]
   exact this
 exact loop (b.length + 1) 0 (by omega)
theorem eqA2_self (a b : Int) : laws_eqIntA2.f a b a b = some true := by unfold laws_eqIntA2.f; simp
abbrev Pr := S26
theorem eqIntA2S_loop (l : List Pr) (hl : l.length ≤ 1000000000) : ∀ (d n : Nat), n + d = l.length → Ev (fun k => laws_eqIntA2S.l0 k l l (n : Int)) true := by
 intro d
 induction d with
 | zero =>
  intro n hn
  exact Ev.step (fun k => laws_eqIntA2S.l0.eq_2 ..) (Ev.ifF (by omega) (Ev.now _))
 | succ d ih =>
  intro n hn
  refine Ev.step (fun k => laws_eqIntA2S.l0.eq_2 ..) (Ev.ifT (by omega) (Ev.ifT (by omega) (Ev.ifT (by omega) ?_)))
  rw [eqA2_self]
  refine Ev.some_bind (Ev.ifT rfl ?_)
  rw [wrap64_succ n (by omega)]
  exact ih (n + 1) (by omega)
theorem eqIntA2S_ev (l : List Pr) (hl : l.length ≤ 1000000000) : Ev (fun k => laws_eqIntA2S.f k l l) true := by
 unfold laws_eqIntA2S.f
 exact Ev.ifT rfl (eqIntA2S_loop l hl l.length 0 (by omega))
theorem aN_id : ∀ i : Nat, i ≤ 1000000000 → laws_markIntA2S.aN 1 i = 2 * (i : Int) + 1
 | 0, _ => rfl
 | i + 1, h => by
  rw [laws_markIntA2S.aN, aN_id i (by omega), wrap64_id (x := 2 * (i : Int) + 1 + 1) (by omega) (by omega), wrap64_id (by omega) (by omega)]
  omega
theorem aN_hd : ∀ i : Nat, laws_heldIntA2S.aN 1 i = laws_markIntA2S.aN 1 i
 | 0 => rfl
 | i + 1 => by rw [laws_markIntA2S.aN, laws_heldIntA2S.aN, aN_hd i]
theorem mN_rd (l : List Pr) : ∀ n : Nat, n ≤ l.length → ∀ i, i < n → (laws_markIntA2S.mN l 1 n)[i]? = some ⟨laws_markIntA2S.aN 1 i, wrap64 (laws_markIntA2S.aN 1 i + 1)⟩
 | 0, _, i, h => absurd h (by omega)
 | n + 1, hn, i, h => by
  rw [laws_markIntA2S.mN]
  by_cases e : i = n
  ·
   subst e
   rw [List.getElem?_set_self (by rw [laws_markIntA2S.mN_length]; omega)]
  ·
   rw [List.getElem?_set_ne (by omega)]
   exact mN_rd l n (by omega) i (by omega)
theorem markA2S_eq (l : List Pr) (hl : l.length ≤ 1000000000) : laws_markIntA2S.f l 1 = some (2 * (l.length : Int) + 1, laws_markIntA2S.mN l 1 l.length) := by
 unfold laws_markIntA2S.f
 rw [if_pos hl, aN_id _ hl]
theorem heldA2S_eq (l : List Pr) (hl : l.length ≤ 1000000000) : laws_heldIntA2S.f (laws_markIntA2S.mN l 1 l.length) 1 = some (2 * (l.length : Int) + 1) := by
 unfold laws_heldIntA2S.f
 rw [if_pos, laws_markIntA2S.mN_length, aN_hd, aN_id _ hl]
 rw [laws_markIntA2S.mN_length]
 refine ⟨hl, fun i hi => ?_⟩
 have h := mN_rd l l.length (Nat.le_refl _) i hi
 rw [aN_hd]
 have e : rd_T26 (laws_markIntA2S.mN l 1 l.length) (i : Int) = ⟨laws_markIntA2S.aN 1 i, wrap64 (laws_markIntA2S.aN 1 i + 1)⟩ := by
  unfold rd_T26
  rw [Int.toNat_natCast, List.getD_eq_getElem?_getD, h]
  rfl
 rw [e]
 exact ⟨rfl, rfl⟩
end Go.Proofs.Ytpgobnhklnglhaa.L
namespace Go.Proofs.Ytpgobnhklnglhaa.Pure
open Go.RowKit Go.Proofs.Ytpgobnhklnglhaa.P Go.Proofs.Ytpgobnhklnglhaa.M Go.Proofs.YtpgobnhklnglhaaW.PrintWords Go.Proofs.YtpgobnhklnglhaaW.PrintLast Go.Proofs.YtpgobnhklnglhaaW.PrintMore
set_option linter.unusedVariables false
open Go.Proofs.Ytpgobnhklnglhaa.L
namespace NeighborPairs
def rowP (ws : List Txt) (i : Nat) : Nat → Nat → List Pr
 | 0, _ => []
 | d + 1, j => (if i < j ∧ distL (ws.getD i []) (ws.getD j []) = 1 then [⟨(i : Int), (j : Int)⟩] else []) ++ rowP ws i d (j + 1)
def allP (ws : List Txt) (n : Nat) : Nat → Nat → List Pr
 | 0, _ => []
 | d + 1, i => rowP ws i n 0 ++ allP ws n d (i + 1)
theorem rowP_length (ws : List Txt) (i : Nat) : ∀ d j, (rowP ws i d j).length ≤ d
 | 0, _ => Nat.le_refl _
 | d + 1, j => by
  have := rowP_length ws i d (j + 1)
  rw [rowP, List.length_append]
  split
  ·
   rw [List.length_singleton]; omega
  ·
   rw [List.length_nil]; omega
theorem rowP_skip (ws : List Txt) (i d : Nat) : ∀ e j, j + e = i + 1 → rowP ws i (e + d) j = rowP ws i d (i + 1)
 | 0, j, h => by rw [Nat.zero_add, show j = i + 1 from by omega]
 | e + 1, j, h => by
  rw [show e + 1 + d = (e + d) + 1 from by omega, rowP, if_neg (fun q => by omega), List.nil_append]
  exact rowP_skip ws i d e (j + 1) (by omega)
theorem allP_length (ws : List Txt) (n : Nat) : ∀ d i, (allP ws n d i).length ≤ d * n
 | 0, _ => by simp [allP]
 | d + 1, i => by
  have h1 := allP_length ws n d (i + 1)
  have h2 := rowP_length ws i n 0
  rw [allP, List.length_append, Nat.succ_mul]
  omega
theorem spec_inner {ws : List Txt} (h : OkW ws) (i : Nat) (hi : i < ws.length) (R : List Pr × Bool) : ∀ (d j : Nat) (acc : List Pr), j + d = ws.length → i < j → acc.length ≤ 40 * i + j →
  (∀ acc', acc' = acc ++ rowP ws i d j → acc'.length ≤ 40 * (i + 1) → Ev (fun k => spec_NeighborPairs.l0 k acc' (ws.map B) ((i + 1 : Nat) : Int)) R) →
  Ev (fun k => spec_NeighborPairs.l1 k acc (ws.map B) (i : Int) (j : Int)) R := by
 have h40 := h.len
 intro d
 induction d with
 | zero =>
  intro j acc q1 q3 q0 q2
  refine Ev.step (fun k => spec_NeighborPairs.l1.eq_2 ..) (Ev.ifF (by rw [List.length_map]; omega) ?_)
  rw [wrap64_succ i (by omega)]
  exact q2 acc (by rw [rowP, List.append_nil]) (by omega)
 | succ d ih =>
  intro j acc q1 q3 q0 q2
  have hj : j < ws.length := by omega
  have hwi := h.le _ (getD_mem hi)
  have hwj := h.le _ (getD_mem hj)
  refine Ev.step (fun k => spec_NeighborPairs.l1.eq_2 ..) (Ev.ifT (by rw [List.length_map]; omega) (Ev.ifT (by omega) (Ev.ifT (by rw [List.length_map]; omega) (Ev.ifT (by omega) ?_))))
  rw [rdB ws i hi, rdB ws j hj]
  refine Ev.bind (l6Distance_ev _ _ hwi hwj) ?_
  rw [wrap64_succ j (by omega)]
  by_cases hq : distL (ws.getD i []) (ws.getD j []) = 1
  ·
   refine Ev.ifT (by rw [hq]; rfl) (Ev.ifT (by omega) (ih (j + 1) _ (by omega) (by omega) (by simp; omega) ?_))
   intro acc' e l
   refine q2 acc' ?_ l
   rw [e, rowP, if_pos ⟨q3, hq⟩, List.append_assoc]
  ·
   refine Ev.ifF (by omega) (ih (j + 1) _ (by omega) (by omega) (by omega) ?_)
   intro acc' e l
   refine q2 acc' ?_ l
   rw [e, rowP, if_neg (fun q => hq q.2), List.nil_append]
theorem spec_loop {ws : List Txt} (h : OkW ws) (R : List Pr) : ∀ (d i : Nat) (acc : List Pr), i + d = ws.length → acc.length ≤ 40 * i → acc ++ allP ws ws.length d i = R →
  Ev (fun k => spec_NeighborPairs.l0 k acc (ws.map B) (i : Int)) (R, true) := by
 have h40 := h.len
 intro d
 induction d with
 | zero =>
  intro i acc q1 q0 q2
  rw [allP, List.append_nil] at q2
  subst q2
  exact Ev.step (fun k => spec_NeighborPairs.l0.eq_2 ..) (Ev.ifF (by rw [List.length_map]; omega) (Ev.now _))
 | succ d ih =>
  intro i acc q1 q0 q2
  refine Ev.step (fun k => spec_NeighborPairs.l0.eq_2 ..) (Ev.ifT (by rw [List.length_map]; omega) ?_)
  rw [wrap64_succ i (by omega)]
  refine spec_inner h i (by omega) _ d (i + 1) acc (by omega) (by omega) (by omega) fun acc' e l => ?_
  refine ih (i + 1) acc' (by omega) l ?_
  rw [e, ← q2, List.append_assoc, allP, ← rowP_skip ws i d (i + 1) 0 (by omega), show i + 1 + d = ws.length from by omega]
theorem impl_inner {ws : List Txt} (h : OkW ws) (i : Nat) (hi : i < ws.length) (R : List Pr × Bool) (N : List Nd) : ∀ (d j : Nat) (acc : List Pr), j + d = ws.length → acc.length ≤ 40 * i + j →
  (∀ acc', acc' = acc ++ rowP ws i d j → acc'.length ≤ 40 * (i + 1) → Ev (fun k => impl_NeighborPairs.l0 k acc' (ws.map B) ((ws.map B).length : Int) ((i + 1 : Nat) : Int) N) R) →
  Ev (fun k => impl_NeighborPairs.l1 k acc (i : Int) (B (ws.getD i [])) (ws.map B) ((ws.map B).length : Int) (i : Int) (ws.map B) ((ws.map B).length : Int) (j : Int) N) R := by
 have h40 := h.len
 intro d
 induction d with
 | zero =>
  intro j acc q1 q0 q2
  refine Ev.step (fun k => impl_NeighborPairs.l1.eq_2 ..) (Ev.ifF (by rw [List.length_map]; omega) ?_)
  rw [wrap64_succ i (by omega)]
  exact q2 acc (by rw [rowP, List.append_nil]) (by omega)
 | succ d ih =>
  intro j acc q1 q0 q2
  have hj : j < ws.length := by omega
  have hwi := h.le _ (getD_mem hi)
  have hwj := h.le _ (getD_mem hj)
  refine Ev.step (fun k => impl_NeighborPairs.l1.eq_2 ..) (Ev.ifT (by rw [List.length_map]; omega) (Ev.ifT (by omega) (Ev.ifT (by rw [List.length_map]; omega) ?_)))
  rw [wrap64_succ j (by omega)]
  by_cases hlt : i < j
  ·
   refine Ev.ifT (by omega) ?_
   rw [rdB ws j hj]
   refine Ev.bind (distance_ev _ _ hwi hwj) ?_
   by_cases hq : distL (ws.getD i []) (ws.getD j []) = 1
   ·
    refine Ev.ifT (by rw [hq]; rfl) (Ev.ifT (by omega) (ih (j + 1) _ (by omega) (by simp; omega) ?_))
    intro acc' e l
    refine q2 acc' ?_ l
    rw [e, rowP, if_pos ⟨hlt, hq⟩, List.append_assoc]
   ·
    refine Ev.ifF (by omega) (ih (j + 1) _ (by omega) (by omega) ?_)
    intro acc' e l
    refine q2 acc' ?_ l
    rw [e, rowP, if_neg (fun q => hq q.2), List.nil_append]
  ·
   refine Ev.ifF (by omega) (ih (j + 1) _ (by omega) (by omega) ?_)
   intro acc' e l
   refine q2 acc' ?_ l
   rw [e, rowP, if_neg (fun q => hlt q.1), List.nil_append]
theorem impl_loop {ws : List Txt} (h : OkW ws) (R : List Pr) : ∀ (d i : Nat) (acc : List Pr), i + d = ws.length → acc.length ≤ 40 * i → acc ++ allP ws ws.length d i = R →
  Ev (fun k => impl_NeighborPairs.l0 k acc (ws.map B) ((ws.map B).length : Int) (i : Int) (trN (preL ws) ws)) (R, true) := by
 have h40 := h.len
 intro d
 induction d with
 | zero =>
  intro i acc q1 q0 q2
  rw [allP, List.append_nil] at q2
  subst q2
  exact Ev.step (fun k => impl_NeighborPairs.l0.eq_2 ..) (Ev.ifF (by rw [List.length_map]; omega) (Ev.now _))
 | succ d ih =>
  intro i acc q1 q0 q2
  have hi : i < ws.length := by omega
  refine Ev.step (fun k => impl_NeighborPairs.l0.eq_2 ..) (Ev.ifT (by rw [List.length_map]; omega) (Ev.ifT (by omega) (Ev.ifT (by rw [List.length_map]; omega) (Ev.bind (words_ev h) ?_))))
  rw [rdB ws i hi]
  refine impl_inner h i hi _ _ ws.length 0 acc (by omega) (by omega) fun acc' e l => ?_
  refine ih (i + 1) acc' (by omega) l ?_
  rw [e, ← q2, List.append_assoc, allP]
theorem both (N : List Nd) : ∃ r : List Pr × Bool, r.1.length ≤ 1600 ∧ Ev (fun k => spec_NeighborPairs.f k N) r ∧ Ev (fun k => impl_NeighborPairs.f k N) r := by
 unfold spec_NeighborPairs.f impl_NeighborPairs.f
 rcases trie_both N with ⟨⟨ws, h, rfl⟩, e1, e2⟩ | ⟨_, e1, e2⟩
 ·
  have h40 := h.len
  refine ⟨(allP ws ws.length ws.length 0, true), ?_, Ev.some_bind (Ev.bind e1 (Ev.ifT rfl ?_)), Ev.bind e2 (Ev.ifT rfl ?_)⟩
  ·
   have h8 := allP_length ws ws.length ws.length 0
   exact Nat.le_trans h8 (Nat.mul_le_mul h40 h40)
  ·
   exact Ev.bind (l2Words_ev h) (spec_loop h _ ws.length 0 [] (by omega) (by simp) (by rw [List.nil_append]))
  ·
   exact Ev.bind (words_ev h) (impl_loop h _ ws.length 0 [] (by omega) (by simp) (by rw [List.nil_append]))
 ·
  exact ⟨([], false), by simp, Ev.some_bind (Ev.bind e1 (Ev.ifF Bool.false_ne_true (Ev.now _))), Ev.bind e2 (Ev.ifF Bool.false_ne_true (Ev.now _))⟩
end NeighborPairs
theorem FnExactNeighborPairs : laws_FnExactNeighborPairs.Pure := by
 intro l hl
 by_cases hs : l.length ≤ 1048576
 ·
  obtain ⟨r, hr, h1, h2⟩ := NeighborPairs.both (toN l)
  have hP := eqTrie_ev (toN l) (by rw [toN_length]; omega)
  have hE := eqIntA2S_ev r.1 (by omega)
  have hM := markTrie_ev (toN l) (by rw [toN_length]; omega)
  have hT := markA2S_eq r.1 (by omega)
  have hH := heldA2S_eq r.1 (by omega)
  refine Ev.rounds ?_
  unfold laws_FnExactNeighborPairs.f
  rw [szTrie_eq l hl, if_pos hs]
  refine Ev.some_bind (Ev.ifF (by omega) (Ev.bind (toTrie_ev l hs) (Ev.bind h1 (Ev.bind (toTrie_ev l hs) (Ev.bind h2 (Ev.bind hE (Ev.ifT rfl ?_)))))))
  refine Ev.step (fun k => laws_FnExactNeighborPairs.j0.eq_2 ..) (Ev.ifF (by simp) (Ev.bind (toTrie_ev l hs) (Ev.bind hP (Ev.ifT rfl (Ev.bind hM (Ev.ifF (by omega) (Ev.bind hE (Ev.ifT rfl ?_))))))))
  refine Ev.step (fun k => laws_FnExactNeighborPairs.j1.eq_2 ..) (Ev.ifF (by simp) ?_)
  rw [hT]
  refine Ev.some_bind ?_
  rw [hH]
  refine Ev.some_bind (Ev.ifF (by omega) (Ev.ifT rfl (Ev.bind (toTrie_ev l hs) (Ev.bind h2 (Ev.bind hE (Ev.ifT rfl ?_))))))
  refine Ev.step (fun k => laws_FnExactNeighborPairs.j2.eq_2 ..) (Ev.ifF (by simp) ?_)
  rw [hH]
  exact Ev.some_bind (Ev.ifF (by omega) (Ev.ifT rfl (Ev.now _)))
 ·
  exact ⟨0, by unfold laws_FnExactNeighborPairs.f; rw [szTrie_eq l hl, if_neg hs]; rfl⟩
end Go.Proofs.Ytpgobnhklnglhaa.Pure
namespace Go.Proofs.Ytpgobnhklnglhaa.fnExactNeighborPairs
open Go.ChangeShapes Go.WideShapes Go.ChangeAt Go.RowKit Go.Proofs.Ytpgobnhklnglhaa.P
open Go.ChangeMaps (open_string shut_string)
set_option linter.unusedVariables false
theorem own : ownKnob Try.prog.godebug = none := by kernel_rfl
theorem laidOut : laidOutB Try.prog = true := by kernel_rfl
set_option maxRecDepth 100000 in
theorem lifted (os : Os) (started : os.Started) (H : Type) (enc : TypeId × Value → H) :
    ReturnsInHanded {} Try.checked os 4 .any (Rows.fnExactNeighborPairsSpec.pre6 enc Try.prog Try.f4 Rows.fnExactNeighborPairsRow.domain false) (Rows.fnExactNeighborPairsSpec.post enc Try.prog Try.f4 false true false false) := by
  refine returnsInHanded_of_change_sized (C := Try.checked) own started (by kernel_rfl) Try.func4
    (ChangeSpec.witness6 (enc := enc) (C := Try.checked) false ⟨#[], #[.agg #[.slice none 0 0]], []⟩ 8 (by kernel_rfl) (by kernel_rfl) (by kernel_rfl) (by kernel_rfl)) ?_
  intro W base args ds gs before hval0 hW hcnd hsz0 _
  have hsz : (DataW.weightsEach Try.prog (Try.f4.params.toList ++ Rows.fnExactNeighborPairsSpec.plain.varTypes Try.prog) (ds ++ gs)).all (· ≤ reachBytes) = true := hsz0
  have hval : ∀ (j : Nat) t v, Try.f4.params[j]? = some t → args[j]? = some v → Value.okWide Try.prog W .any base t v := hval0
  have hW' := hW
  obtain ⟨p, q, hA0, hV, rfl, hfz, hnd⟩ := hW
  have hA : DataW.TrodAll enc Try.prog W 0 (fun _ => true) true Try.f4.params.toList args.toList ds p := hA0
  rw [Try.params4] at hA hval hsz
  obtain ⟨v0, vs0, d0, ds0, p0, q0, hargs, rfl, rfl, h0, r0⟩ := trodAll_cons hA
  obtain ⟨rfl, rfl, rfl⟩ := trodAll_nil r0
  obtain rfl : args = #[v0] := by cases args; simp_all
  obtain ⟨rfl, rfl⟩ := trodVars_none hV
  have k0 := h0
  have lt0 : ∀ x ∈ p0, x.block < W.heap.size := by obtain ⟨m, hm⟩ := k0; exact DataW.trod_lt m _ _ _ hm
  obtain ⟨A0, c0, l0, ev0, hc0, hr0⟩ := OT.trie (hval 0 24 v0 rfl rfl) h0
  subst ev0
  clear hA0 hval0 hsz0 hsz
  refine (laws_FnExactNeighborPairs.walk Pure.FnExactNeighborPairs W A0 c0 l0 hr0 hc0).mono fun e W' ⟨he, bel⟩ => ?_
  subst he
  exact ⟨_, rfl, _, _, _, [], _, [], hW', trodAll_mk1 (shut_bool Try.underlying4 _), (trodAll_cons_mk (Below.trod laidOut (by kernel_rfl) (of_decide_eq_true (by kernel_rfl)) k0 bel lt0) trodAll_mk0), rfl, bel.frame _, fun h => by cases h⟩
theorem over : Rows.fnExactNeighborPairsRow.holds Try.pinned (OpenSpec.ofChange Rows.fnExactNeighborPairsSpec) :=
  OpenClaim.holds_of_wide 4 Try.f4 rfl rfl rfl rfl rfl rfl rfl ⟨rfl, rfl, rfl, rfl, rfl⟩ rfl rfl rfl rfl rfl (by kernel_rfl) Try.func4 (by kernel_rfl)
    (of_decide_eq_true (by kernel_rfl)) (by unfold Func.isWrapper; first | (rw [if_pos (by decide +kernel)]; kernel_rfl) | (rw [if_neg (by decide +kernel)]; exact ⟨rfl, rfl⟩))
    (fun os started H enc _ => lifted os started H enc)
theorem proved : Rows.FnExactNeighborPairsSaid := over
end Go.Proofs.Ytpgobnhklnglhaa.fnExactNeighborPairs
namespace Go.Proofs.Ytpgobnhklnglhaa
theorem fnExactNeighborPairs_holds : Rows.FnExactNeighborPairsSaid := fnExactNeighborPairs.proved
end Go.Proofs.Ytpgobnhklnglhaa
