/-
  Part 2 of the proof that FnExactNearWords returns true for every input: the functions that it reaches, each with its contract, and the law.
  Conditions: those of the given statement, no others.
-/
import Derived.Test.YtpgobnhklnglhaaGreatDoorKNW0
import Derived.Test.YtpgobnhklnglhaaGreatDoorRows
import Derived.WalkKit
import Derived.ProofKit
import Derived.OpenShut
import Derived.ShutString
import Derived.ChangeOld
import Derived.Below
import Derived.SizedLaws
import Derived.Lay
import Derived.LaidOnce
import Derived.SevenTiedAt
import Derived.Test.YtpgobnhklnglhaaGreatDoorCards
import Derived.Test.YtpgobnhklnglhaaGreatDoorTie
import Derived.Test.YtpgobnhklnglhaaGreatDoorKN0
import Derived.Test.YtpgobnhklnglhaaGreatDoorCFnExactNearWords0
import Derived.Test.YtpgobnhklnglhaaGreatDoorKN2
import Derived.Test.YtpgobnhklnglhaaGreatDoorKN3
set_option linter.unusedVariables false
set_option linter.unusedSimpArgs false
set_option maxHeartbeats 8000000
set_option maxRecDepth 100000
namespace Go.Proofs.YtpgobnhklnglhaaGreatDoor.P
open Go.RowKit Go.Proofs.YtpgobnhklnglhaaGreatDoorW.PrintWords Go.Proofs.YtpgobnhklnglhaaGreatDoorW.PrintLast Go.Proofs.YtpgobnhklnglhaaGreatDoorW.PrintMore
attribute [local go_sem] max2_int min2_int max_two min_two max_three min_three max_four min_four
mutual
def laws_FnExactNearWords.j0 : Nat → ByteArray → Int → List ByteArray → Bool → List ByteArray → Bool → Bool → List (S67) → List (S64) → Option (Bool)
 | 0, _, _, _, _, _, _, _, _, _ => none
 | k + 1, x1, x2, x8, x9, x11, x12, x51, x531000, x543000 => if x51 = true then (some false) else ((laws_toTrie.f k x531000).bind fun t548 => ((laws_eqTrie.f k x543000 t548).bind fun t551 => (if t551 = true then ((laws_markTrie.f k x543000 1).bind fun bt552 => (if bt552.1 < 0 then (laws_FnExactNearWords.j1 k x1 x2 x8 x9 x11 true x531000) else ((laws_eqStringS.f k x11 x8).bind fun t554 => (if t554 = true then (laws_FnExactNearWords.j1 k x1 x2 x8 x9 x11 (x12 != x9) x531000) else (laws_FnExactNearWords.j1 k x1 x2 x8 x9 x11 true x531000))))) else (some false))))
def laws_FnExactNearWords.j1 : Nat → ByteArray → Int → List ByteArray → Bool → List ByteArray → Bool → List (S67) → Option (Bool)
 | 0, _, _, _, _, _, _, _ => none
 | k + 1, x1, x2, x8, x9, x11, x72, x531000 => if x72 = true then (some false) else ((laws_markStringS.f k x11 1).bind fun bt555 => ((laws_heldStringS.f k bt555.2 1).bind fun t557 => (if t557 < 0 then (some false) else (if t557 = bt555.1 then ((laws_toTrie.f k x531000).bind fun t558 => ((impl_NearWords.f k t558 x1 x2).bind fun bt561 => ((laws_eqStringS.f k bt561.1 x8).bind fun t565 => (if t565 = true then (laws_FnExactNearWords.j2 k bt555.2 bt555.1 (bt561.2 != x9)) else (laws_FnExactNearWords.j2 k bt555.2 bt555.1 true))))) else (some false)))))
def laws_FnExactNearWords.j2 : Nat → List ByteArray → Int → Bool → Option (Bool)
 | 0, _, _, _ => none
 | k + 1, x11, x14, x100 => if x100 = true then (some false) else ((laws_heldStringS.f k x11 1).bind fun t566 => (if t566 < 0 then (some false) else (if t566 = x14 then (some true) else (some false))))
end
def laws_FnExactNearWords.f (k : Nat) (l0_0 : List (S67)) (a1 : ByteArray) (a2 : Int) : Option (Bool) := if (a1.size : Int) > 1048576 then (some true) else ((laws_szTrie.f l0_0 1048576).bind fun t531 => (if t531 < 0 then (some true) else ((laws_toTrie.f k l0_0).bind fun t532 => ((spec_NearWords.f k t532 a1 a2).bind fun bt535 => ((laws_toTrie.f k l0_0).bind fun t539 => ((impl_NearWords.f k t539 a1 a2).bind fun bt543 => ((laws_eqStringS.f k bt543.1 bt535.1).bind fun t547 => (if t547 = true then (laws_FnExactNearWords.j0 k a1 a2 bt535.1 bt535.2 bt543.1 bt543.2 (bt543.2 != bt535.2) l0_0 t539) else (laws_FnExactNearWords.j0 k a1 a2 bt535.1 bt535.2 bt543.1 bt543.2 true l0_0 t539)))))))))
theorem laws_FnExactNearWords.mono_l : ∀ k, (∀ y0 y1 y2 y3 y4 y5 y6 y7 y8, LeO (laws_FnExactNearWords.j0 k y0 y1 y2 y3 y4 y5 y6 y7 y8) (laws_FnExactNearWords.j0 (k + 1) y0 y1 y2 y3 y4 y5 y6 y7 y8)) ∧ (∀ y0 y1 y2 y3 y4 y5 y6, LeO (laws_FnExactNearWords.j1 k y0 y1 y2 y3 y4 y5 y6) (laws_FnExactNearWords.j1 (k + 1) y0 y1 y2 y3 y4 y5 y6)) ∧ (∀ y0 y1 y2, LeO (laws_FnExactNearWords.j2 k y0 y1 y2) (laws_FnExactNearWords.j2 (k + 1) y0 y1 y2))
 | 0 => ⟨fun _ _ _ _ _ _ _ _ _ r h => by simp [laws_FnExactNearWords.j0] at h, fun _ _ _ _ _ _ _ r h => by simp [laws_FnExactNearWords.j1] at h, fun _ _ _ r h => by simp [laws_FnExactNearWords.j2] at h⟩
 | k + 1 => by
  obtain ⟨ih0, ih1, ih2⟩ := laws_FnExactNearWords.mono_l k
  refine ⟨?_, ?_, ?_⟩
  ·
   intro y0 y1 y2 y3 y4 y5 y6 y7 y8
   unfold laws_FnExactNearWords.j0
   repeat' with_reducible first | exact ih0 _ _ _ _ _ _ _ _ _ | exact ih1 _ _ _ _ _ _ _ | exact ih2 _ _ _ | exact impl_NearWords.mono _ _ _ _ | exact laws_eqStringS.mono _ _ _ | exact laws_eqTrie.mono _ _ _ | exact laws_heldStringS.mono _ _ _ | exact laws_markStringS.mono _ _ _ | exact laws_markTrie.mono _ _ _ | exact laws_toTrie.mono _ _ | exact spec_NearWords.mono _ _ _ _ | exact LeO.refl _ | exact LeO.none _ | refine LeO.ite ?_ ?_ | refine LeO.bind ?_ (fun _ => ?_)
  ·
   intro y0 y1 y2 y3 y4 y5 y6
   unfold laws_FnExactNearWords.j1
   repeat' with_reducible first | exact ih0 _ _ _ _ _ _ _ _ _ | exact ih1 _ _ _ _ _ _ _ | exact ih2 _ _ _ | exact impl_NearWords.mono _ _ _ _ | exact laws_eqStringS.mono _ _ _ | exact laws_eqTrie.mono _ _ _ | exact laws_heldStringS.mono _ _ _ | exact laws_markStringS.mono _ _ _ | exact laws_markTrie.mono _ _ _ | exact laws_toTrie.mono _ _ | exact spec_NearWords.mono _ _ _ _ | exact LeO.refl _ | exact LeO.none _ | refine LeO.ite ?_ ?_ | refine LeO.bind ?_ (fun _ => ?_)
  ·
   intro y0 y1 y2
   unfold laws_FnExactNearWords.j2
   repeat' with_reducible first | exact ih0 _ _ _ _ _ _ _ _ _ | exact ih1 _ _ _ _ _ _ _ | exact ih2 _ _ _ | exact impl_NearWords.mono _ _ _ _ | exact laws_eqStringS.mono _ _ _ | exact laws_eqTrie.mono _ _ _ | exact laws_heldStringS.mono _ _ _ | exact laws_markStringS.mono _ _ _ | exact laws_markTrie.mono _ _ _ | exact laws_toTrie.mono _ _ | exact spec_NearWords.mono _ _ _ _ | exact LeO.refl _ | exact LeO.none _ | refine LeO.ite ?_ ?_ | refine LeO.bind ?_ (fun _ => ?_)
theorem laws_FnExactNearWords.mono : ∀ a0 a1 a2 k, LeO (laws_FnExactNearWords.f k a0 a1 a2) (laws_FnExactNearWords.f (k + 1) a0 a1 a2) := by
 intro a0 a1 a2 k
 obtain ⟨ih0, ih1, ih2⟩ := laws_FnExactNearWords.mono_l k
 unfold laws_FnExactNearWords.f
 repeat' with_reducible first | exact ih0 _ _ _ _ _ _ _ _ _ | exact ih1 _ _ _ _ _ _ _ | exact ih2 _ _ _ | exact impl_NearWords.mono _ _ _ _ | exact laws_eqStringS.mono _ _ _ | exact laws_eqTrie.mono _ _ _ | exact laws_heldStringS.mono _ _ _ | exact laws_markStringS.mono _ _ _ | exact laws_markTrie.mono _ _ _ | exact laws_toTrie.mono _ _ | exact spec_NearWords.mono _ _ _ _ | exact LeO.refl _ | exact LeO.none _ | refine LeO.ite ?_ ?_ | refine LeO.bind ?_ (fun _ => ?_)
theorem laws_FnExactNearWords.calls (k : Nat) (A0_0 : Option Addr) (c0_0 : Nat) (l0_0 : List (S67)) (a1 : ByteArray) (a2 : Int) (r : Bool) (w : World) (hr0_0 : Kd.C k67 w A0_0 l0_0.length l0_0) (hc0_0 : l0_0.length ≤ c0_0) (h : laws_FnExactNearWords.f k l0_0 a1 a2 = some r) :
  Calls Tryz.prog 5 #[.agg #[.slice A0_0 l0_0.length c0_0], .string a1, .int .i64 a2] w fun e w' => e = .returned (.bool r) ∧ Below w.heap.size w w' := by
 have hu24 := Tryz.underlying24
 have hu31 := Tryz.underlying31
 have HR0_0 := Aside0.mk hr0_0
 have HC0_0 := Aside0.mk hc0_0
 clear hr0_0 hc0_0
 have HB := Aside0.mk (Below.refl w.heap.size w)
 have H : (if (a1.size : Int) > 1048576 then (some true) else ((laws_szTrie.f l0_0 1048576).bind fun t531 => (if t531 < 0 then (some true) else ((laws_toTrie.f k l0_0).bind fun t532 => ((spec_NearWords.f k t532 a1 a2).bind fun bt535 => ((laws_toTrie.f k l0_0).bind fun t539 => ((impl_NearWords.f k t539 a1 a2).bind fun bt543 => ((laws_eqStringS.f k bt543.1 bt535.1).bind fun t547 => (if t547 = true then (laws_FnExactNearWords.j0 k a1 a2 bt535.1 bt535.2 bt543.1 bt543.2 (bt543.2 != bt535.2) l0_0 t539) else (laws_FnExactNearWords.j0 k a1 a2 bt535.1 bt535.2 bt543.1 bt543.2 true l0_0 t539)))))))))) = some r := h
 clear h
 by_cases c4 : (a1.size : Int) > 1048576
 ·
  rw [if_pos c4] at H
  have c4b0 : decide (1048576 < (a1.size : Int)) = true := decide_eq_true c4
  have c4b1 : decide (1048576 < a1.size) = true := decide_eq_true (by omega)
  clear c4
  obtain rfl := Option.some.inj H
  go_enter Tryz.func5, Tryz.ntmps5
  go_wp2_with (first | ((with_reducible refine gate_dst (N := 3) rfl ?_); refine box_event ?hg (N := 3) ?hd (cs := #[.slice A0_0 l0_0.length c0_0]) (t := 24) ?hr ?_; (case hd => rfl); (case hg => rfl); (case hr => first | (go_simp; done) | (go_simp; rfl)); intro gb530 hg w5 hbox hb; have n0_ := Aside0.mk (below_step (by repeat (first | (with_reducible first | exact HB.out | apply below_alloc | apply pw_below_drewN | apply below_drew1) | exact HB.out)) hb); have n1_ := Aside0.mk (hbox); have n2_ := Aside0.mk ((by rw [hg]; exact (below_size (by repeat (first | (with_reducible first | exact HB.out | apply below_alloc | apply pw_below_drewN | apply below_drew1) | exact HB.out))) : w.heap.size ≤ gb530)); have n3_ := Aside0.mk ((by rw [hg]; exact (below_size (by repeat (first | (with_reducible first | exact HB.out | apply below_alloc | apply pw_below_drewN | apply below_drew1) | exact HB.out))) : w.heap.size ≤ gb530)); clear HB; have HB := n0_; have BK530 := n1_; have GW530 := n2_; have GE530 := n3_; clear n0_ n1_ n2_ n3_; clear hb hbox hg))
  go_ret
  exact ⟨by first | rfl | (simp [errW_none, errW_some] <;> rfl) | (simp [*, errW_none, errW_some] <;> rfl), by repeat (first | (with_reducible first | exact HB.out | apply below_alloc | apply pw_below_drewN | apply below_drew1 | refine below_set ?_ GE530.out) | exact HB.out)⟩
 ·
  rw [if_neg c4] at H
  have c4b0 : decide (1048576 < (a1.size : Int)) = false := decide_eq_false c4
  have c4b1 : decide (1048576 < a1.size) = false := decide_eq_false (by omega)
  clear c4
  replace H := Option.bind_eq_some_iff.mp H
  obtain ⟨t531, A60, H⟩ := H
  replace H : (if t531 < 0 then (some true) else ((laws_toTrie.f k l0_0).bind fun t532 => ((spec_NearWords.f k t532 a1 a2).bind fun bt535 => ((laws_toTrie.f k l0_0).bind fun t539 => ((impl_NearWords.f k t539 a1 a2).bind fun bt543 => ((laws_eqStringS.f k bt543.1 bt535.1).bind fun t547 => (if t547 = true then (laws_FnExactNearWords.j0 k a1 a2 bt535.1 bt535.2 bt543.1 bt543.2 (bt543.2 != bt535.2) l0_0 t539) else (laws_FnExactNearWords.j0 k a1 a2 bt535.1 bt535.2 bt543.1 bt543.2 true l0_0 t539)))))))) = some r := H
  have A6 := Aside0.mk A60
  clear A60
  by_cases c7 : t531 < 0
  ·
   rw [if_pos c7] at H
   have c7b0 : decide (t531 < 0) = true := decide_eq_true c7
   clear c7
   obtain rfl := Option.some.inj H
   go_enter Tryz.func5, Tryz.ntmps5
   go_wp2_with (first | ((with_reducible refine gate_dst (N := 3) rfl ?_); refine box_event ?hg (N := 3) ?hd (cs := #[.slice A0_0 l0_0.length c0_0]) (t := 24) ?hr ?_; (case hd => rfl); (case hg => rfl); (case hr => first | (go_simp; done) | (go_simp; rfl)); intro gb530 hg w8 hbox hb; have n0_ := Aside0.mk (below_step (by repeat (first | (with_reducible first | exact HB.out | apply below_alloc | apply pw_below_drewN | apply below_drew1) | exact HB.out)) hb); have n1_ := Aside0.mk (hbox); have n2_ := Aside0.mk ((by rw [hg]; exact (below_size (by repeat (first | (with_reducible first | exact HB.out | apply below_alloc | apply pw_below_drewN | apply below_drew1) | exact HB.out))) : w.heap.size ≤ gb530)); have n3_ := Aside0.mk ((by rw [hg]; exact (below_size (by repeat (first | (with_reducible first | exact HB.out | apply below_alloc | apply pw_below_drewN | apply below_drew1) | exact HB.out))) : w.heap.size ≤ gb530)); clear HB; have HB := n0_; have BK530 := n1_; have GW530 := n2_; have GE530 := n3_; clear n0_ n1_ n2_ n3_; clear hb hbox hg; have hcz9_0 : w8.cell? ⟨gb530, 0, none⟩ = some (.slice A0_0 l0_0.length c0_0) := (blk_cell BK530.out 0).trans rfl; have hfz9_0 := blk_frozen BK530.out 0) | ((with_reducible refine gate_callee (f := 6) rfl ?_); refine goesL_ (some 23) rfl rfl Tryz.func6 (by kernel_rfl) rfl #[.agg #[.slice A0_0 l0_0.length c0_0], .int .i64 1048576] rfl (by (try simp only [List.map_toArray, List.map_cons, List.map_nil]); first | done | rfl | (simp only [List.length_drop, List.length_take]; rfl)) ?_; (with_reducible refine (laws_szTrie.calls _ _ l0_0 1048576 t531 _ ?side1 ?side2 A6.out).mono ?_); (case side1 => repeat (first | exact (Kd.C_below HR0_0.out HB.out) | (with_reducible refine Kd.C_alloc ?_ _) | (with_reducible refine Kd.C_drewN ?_ _) | (with_reducible refine Kd.C_drew ?_))); (case side2 => exact HC0_0.out); rintro e w10 ⟨rfl, hb⟩; refine ⟨_, rfl, ?_⟩; have n0_ := Aside0.mk (blk_below (g := gb530) (o := .cells #[.slice A0_0 l0_0.length c0_0] 24 (0, 0)) (by (with_reducible repeat (first | refine blk_drewN ?_ _ | refine blk_drew ?_ | refine blk_alloc ?_ _)); exact BK530.out) hb); have n1_ := Aside0.mk (below_step (by repeat (first | (with_reducible first | exact HB.out | apply below_alloc | apply pw_below_drewN | apply below_drew1 | refine below_set ?_ GE530.out) | exact HB.out)) hb); clear BK530; clear HB; have BK530 := n0_; have HB := n1_; clear n0_ n1_; (try clear hb); (try clear hb2); (try clear hk); (try clear hi)))
   go_ret
   exact ⟨by first | rfl | (simp [errW_none, errW_some] <;> rfl) | (simp [*, errW_none, errW_some] <;> rfl), by repeat (first | (with_reducible first | exact HB.out | apply below_alloc | apply pw_below_drewN | apply below_drew1 | refine below_set ?_ GE530.out) | exact HB.out)⟩
  ·
   rw [if_neg c7] at H
   have c7b0 : decide (t531 < 0) = false := decide_eq_false c7
   clear c7
   replace H := Option.bind_eq_some_iff.mp H
   obtain ⟨t532, A110, H⟩ := H
   replace H : ((spec_NearWords.f k t532 a1 a2).bind fun bt535 => ((laws_toTrie.f k l0_0).bind fun t539 => ((impl_NearWords.f k t539 a1 a2).bind fun bt543 => ((laws_eqStringS.f k bt543.1 bt535.1).bind fun t547 => (if t547 = true then (laws_FnExactNearWords.j0 k a1 a2 bt535.1 bt535.2 bt543.1 bt543.2 (bt543.2 != bt535.2) l0_0 t539) else (laws_FnExactNearWords.j0 k a1 a2 bt535.1 bt535.2 bt543.1 bt543.2 true l0_0 t539)))))) = some r := H
   have A11 := Aside0.mk A110
   clear A110
   replace H := Option.bind_eq_some_iff.mp H
   obtain ⟨⟨t535, t538⟩, A120, H⟩ := H
   replace H : ((laws_toTrie.f k l0_0).bind fun t539 => ((impl_NearWords.f k t539 a1 a2).bind fun bt543 => ((laws_eqStringS.f k bt543.1 t535).bind fun t547 => (if t547 = true then (laws_FnExactNearWords.j0 k a1 a2 t535 t538 bt543.1 bt543.2 (bt543.2 != t538) l0_0 t539) else (laws_FnExactNearWords.j0 k a1 a2 t535 t538 bt543.1 bt543.2 true l0_0 t539))))) = some r := H
   have A12 := Aside0.mk A120
   clear A120
   replace H := Option.bind_eq_some_iff.mp H
   obtain ⟨t539, A130, H⟩ := H
   replace H : ((impl_NearWords.f k t539 a1 a2).bind fun bt543 => ((laws_eqStringS.f k bt543.1 t535).bind fun t547 => (if t547 = true then (laws_FnExactNearWords.j0 k a1 a2 t535 t538 bt543.1 bt543.2 (bt543.2 != t538) l0_0 t539) else (laws_FnExactNearWords.j0 k a1 a2 t535 t538 bt543.1 bt543.2 true l0_0 t539)))) = some r := H
   have A13 := Aside0.mk A130
   clear A130
   replace H := Option.bind_eq_some_iff.mp H
   obtain ⟨⟨t543, t546⟩, A140, H⟩ := H
   replace H : ((laws_eqStringS.f k t543 t535).bind fun t547 => (if t547 = true then (laws_FnExactNearWords.j0 k a1 a2 t535 t538 t543 t546 (t546 != t538) l0_0 t539) else (laws_FnExactNearWords.j0 k a1 a2 t535 t538 t543 t546 true l0_0 t539))) = some r := H
   have A14 := Aside0.mk A140
   clear A140
   have HC15 := Aside0.mk H
   clear H
   go_enter Tryz.func5, Tryz.ntmps5
   go_upto_region 10 with (first | ((with_reducible refine gate_dst (N := 3) rfl ?_); refine box_event ?hg (N := 3) ?hd (cs := #[.slice A0_0 l0_0.length c0_0]) (t := 24) ?hr ?_; (case hd => rfl); (case hg => rfl); (case hr => first | (go_simp; done) | (go_simp; rfl)); intro gb530 hg w16 hbox hb; have n0_ := Aside0.mk (below_step (by repeat (first | (with_reducible first | exact HB.out | apply below_alloc | apply pw_below_drewN | apply below_drew1) | exact HB.out)) hb); have n1_ := Aside0.mk (hbox); have n2_ := Aside0.mk ((by rw [hg]; exact (below_size (by repeat (first | (with_reducible first | exact HB.out | apply below_alloc | apply pw_below_drewN | apply below_drew1) | exact HB.out))) : w.heap.size ≤ gb530)); have n3_ := Aside0.mk ((by rw [hg]; exact (below_size (by repeat (first | (with_reducible first | exact HB.out | apply below_alloc | apply pw_below_drewN | apply below_drew1) | exact HB.out))) : w.heap.size ≤ gb530)); clear HB; have HB := n0_; have BK530 := n1_; have GW530 := n2_; have GE530 := n3_; clear n0_ n1_ n2_ n3_; clear hb hbox hg; have hcz17_0 : w16.cell? ⟨gb530, 0, none⟩ = some (.slice A0_0 l0_0.length c0_0) := (blk_cell BK530.out 0).trans rfl; have hfz17_0 := blk_frozen BK530.out 0) | ((with_reducible refine gate_callee (f := 6) rfl ?_); refine goesL_ (some 23) rfl rfl Tryz.func6 (by kernel_rfl) rfl #[.agg #[.slice A0_0 l0_0.length c0_0], .int .i64 1048576] rfl (by (try simp only [List.map_toArray, List.map_cons, List.map_nil]); first | done | rfl | (simp only [List.length_drop, List.length_take]; rfl)) ?_; (with_reducible refine (laws_szTrie.calls _ _ l0_0 1048576 t531 _ ?side1 ?side2 A6.out).mono ?_); (case side1 => repeat (first | exact (Kd.C_below HR0_0.out HB.out) | (with_reducible refine Kd.C_alloc ?_ _) | (with_reducible refine Kd.C_drewN ?_ _) | (with_reducible refine Kd.C_drew ?_))); (case side2 => exact HC0_0.out); rintro e w18 ⟨rfl, hb⟩; refine ⟨_, rfl, ?_⟩; have n0_ := Aside0.mk (blk_below (g := gb530) (o := .cells #[.slice A0_0 l0_0.length c0_0] 24 (0, 0)) (by (with_reducible repeat (first | refine blk_drewN ?_ _ | refine blk_drew ?_ | refine blk_alloc ?_ _)); exact BK530.out) hb); have n1_ := Aside0.mk (below_step (by repeat (first | (with_reducible first | exact HB.out | apply below_alloc | apply pw_below_drewN | apply below_drew1 | refine below_set ?_ GE530.out) | exact HB.out)) hb); clear BK530; clear HB; have BK530 := n0_; have HB := n1_; clear n0_ n1_; (try clear hb); (try clear hb2); (try clear hk); (try clear hi); have hcz19_0 : w18.cell? ⟨gb530, 0, none⟩ = some (.slice A0_0 l0_0.length c0_0) := (blk_cell BK530.out 0).trans rfl; have hfz19_0 := blk_frozen BK530.out 0) | ((with_reducible refine gate_callee (f := 8) rfl ?_); refine goesL_ (some 28) rfl rfl Tryz.func8 (by kernel_rfl) rfl #[.agg #[.slice A0_0 l0_0.length c0_0]] rfl (by (try simp only [List.map_toArray, List.map_cons, List.map_nil]); first | done | rfl | (simp only [List.length_drop, List.length_take]; rfl)) ?_; (with_reducible refine (laws_toTrie.calls k _ _ l0_0 t532 _ ?side1 ?side2 A11.out).mono ?_); (case side1 => repeat (first | exact (Kd.C_below HR0_0.out HB.out) | (with_reducible refine Kd.C_alloc ?_ _) | (with_reducible refine Kd.C_drewN ?_ _) | (with_reducible refine Kd.C_drew ?_))); (case side2 => exact HC0_0.out); rintro e w20 ⟨v533, rfl, ho0, hb⟩; refine ⟨_, rfl, ?_⟩; have n0_ := Aside0.mk (Kd.R_lower ho0 (below_size (by repeat (first | (with_reducible first | exact HB.out | apply below_alloc | apply pw_below_drewN | apply below_drew1 | refine below_set ?_ GE530.out) | exact HB.out)))); have n1_ := Aside0.mk (blk_below (g := gb530) (o := .cells #[.slice A0_0 l0_0.length c0_0] 24 (0, 0)) (by (with_reducible repeat (first | refine blk_drewN ?_ _ | refine blk_drew ?_ | refine blk_alloc ?_ _)); exact BK530.out) hb); have n2_ := Aside0.mk (below_step (by repeat (first | (with_reducible first | exact HB.out | apply below_alloc | apply pw_below_drewN | apply below_drew1 | refine below_set ?_ GE530.out) | exact HB.out)) hb); clear BK530; clear HB; have HO534 := n0_; have BK530 := n1_; have HB := n2_; clear n0_ n1_ n2_; (try clear hb); (try clear hb2); (try clear hk); (try clear hi); (try clear ho0); obtain ⟨Ao21, co21, eo21⟩ := Kd.R_slice HO534.out; subst eo21) | ((with_reducible refine gate_callee (f := 18) rfl ?_); refine goesL_ (some 31) rfl rfl Tryz.func18 (by kernel_rfl) rfl #[.agg #[.slice Ao21 t532.length co21], .string a1, .int .i64 a2] rfl (by (try simp only [List.map_toArray, List.map_cons, List.map_nil]); first | done | rfl | (simp only [List.length_drop, List.length_take]; rfl)) ?_; (with_reducible refine (spec_NearWords.calls k _ _ t532 a1 a2 t535 t538 _ ?side1 ?side2 A12.out).mono ?_); (case side1 => repeat (first | exact (Kd.R_reads' HO534.out).2.2 | (with_reducible refine Kd.C_alloc ?_ _) | (with_reducible refine Kd.C_drewN ?_ _) | (with_reducible refine Kd.C_drew ?_))); (case side2 => exact (Kd.R_reads' HO534.out).2.1); rintro e w22 ⟨v536, rfl, ho0, hb⟩; refine ⟨_, rfl, ?_⟩; have n0_ := Aside0.mk (Kd.R_below (by (with_reducible repeat (first | apply Kd.R_alloc | apply Kd.R_drewN | apply Kd.R_drew)); exact HO534.out) hb); have n1_ := Aside0.mk (Kd.R_lower ho0 (below_size (by repeat (first | (with_reducible first | exact HB.out | apply below_alloc | apply pw_below_drewN | apply below_drew1 | refine below_set ?_ GE530.out) | exact HB.out)))); have n2_ := Aside0.mk (blk_below (g := gb530) (o := .cells #[.slice A0_0 l0_0.length c0_0] 24 (0, 0)) (by (with_reducible repeat (first | refine blk_drewN ?_ _ | refine blk_drew ?_ | refine blk_alloc ?_ _)); exact BK530.out) hb); have n3_ := Aside0.mk (below_step (by repeat (first | (with_reducible first | exact HB.out | apply below_alloc | apply pw_below_drewN | apply below_drew1 | refine below_set ?_ GE530.out) | exact HB.out)) hb); clear HO534; clear BK530; clear HB; have HO534 := n0_; have HO537 := n1_; have BK530 := n2_; have HB := n3_; clear n0_ n1_ n2_ n3_; (try clear hb); (try clear hb2); (try clear hk); (try clear hi); (try clear ho0); have hcz23_0 : w22.cell? ⟨gb530, 0, none⟩ = some (.slice A0_0 l0_0.length c0_0) := (blk_cell BK530.out 0).trans rfl; have hfz23_0 := blk_frozen BK530.out 0) | ((with_reducible refine gate_callee (f := 8) rfl ?_); refine goesL_ (some 35) rfl rfl Tryz.func8 (by kernel_rfl) rfl #[.agg #[.slice A0_0 l0_0.length c0_0]] rfl (by (try simp only [List.map_toArray, List.map_cons, List.map_nil]); first | done | rfl | (simp only [List.length_drop, List.length_take]; rfl)) ?_; (with_reducible refine (laws_toTrie.calls k _ _ l0_0 t539 _ ?side1 ?side2 A13.out).mono ?_); (case side1 => repeat (first | exact (Kd.C_below HR0_0.out HB.out) | (with_reducible refine Kd.C_alloc ?_ _) | (with_reducible refine Kd.C_drewN ?_ _) | (with_reducible refine Kd.C_drew ?_))); (case side2 => exact HC0_0.out); rintro e w24 ⟨v540, rfl, ho0, hb⟩; refine ⟨_, rfl, ?_⟩; have n0_ := Aside0.mk (Kd.R_elder' (by (with_reducible repeat (first | apply Kd.R_alloc | apply Kd.R_drewN | apply Kd.R_drew)); exact HO534.out) (Kd.R_base ho0) hb); have n1_ := Aside0.mk (Kd.R_below (by (with_reducible repeat (first | apply Kd.R_alloc | apply Kd.R_drewN | apply Kd.R_drew)); exact HO537.out) hb); have n2_ := Aside0.mk (Kd.R_lower (Kd.R_new' ho0 (Kd.R_lt (by (with_reducible repeat (first | apply Kd.R_alloc | apply Kd.R_drewN | apply Kd.R_drew)); exact HO534.out))) (below_size (by repeat (first | (with_reducible first | exact HB.out | apply below_alloc | apply pw_below_drewN | apply below_drew1 | refine below_set ?_ GE530.out) | exact HB.out)))); have n3_ := Aside0.mk (blk_below (g := gb530) (o := .cells #[.slice A0_0 l0_0.length c0_0] 24 (0, 0)) (by (with_reducible repeat (first | refine blk_drewN ?_ _ | refine blk_drew ?_ | refine blk_alloc ?_ _)); exact BK530.out) hb); have n4_ := Aside0.mk (below_step (by repeat (first | (with_reducible first | exact HB.out | apply below_alloc | apply pw_below_drewN | apply below_drew1 | refine below_set ?_ GE530.out) | exact HB.out)) hb); clear HO534; clear HO537; clear BK530; clear HB; have HO534 := n0_; have HO537 := n1_; have HO541 := n2_; have BK530 := n3_; have HB := n4_; clear n0_ n1_ n2_ n3_ n4_; (try clear hb); (try clear hb2); (try clear hk); (try clear hi); (try clear ho0)) | ((with_reducible refine gate_dst (N := 10) rfl ?_); refine box_event ?hg (N := 10) ?hd (cs := #[.slice none 0 0]) (t := 31) ?hr ?_; (case hd => rfl); (case hg => rfl); (case hr => first | (go_simp; done) | (go_simp; rfl)); intro gb542 hg w25 hbox hb; have n0_ := Aside0.mk (Kd.R_below (by (with_reducible repeat (first | apply Kd.R_alloc | apply Kd.R_drewN | apply Kd.R_drew)); exact HO534.out) hb); have n1_ := Aside0.mk (Kd.R_below (by (with_reducible repeat (first | apply Kd.R_alloc | apply Kd.R_drewN | apply Kd.R_drew)); exact HO537.out) hb); have n2_ := Aside0.mk (Kd.R_below (by (with_reducible repeat (first | apply Kd.R_alloc | apply Kd.R_drewN | apply Kd.R_drew)); exact HO541.out) hb); have n3_ := Aside0.mk (blk_below (g := gb530) (o := .cells #[.slice A0_0 l0_0.length c0_0] 24 (0, 0)) (by (with_reducible repeat (first | refine blk_drewN ?_ _ | refine blk_drew ?_ | refine blk_alloc ?_ _)); exact BK530.out) hb); have n4_ := Aside0.mk (below_step (by repeat (first | (with_reducible first | exact HB.out | apply below_alloc | apply pw_below_drewN | apply below_drew1 | refine below_set ?_ GE530.out) | exact HB.out)) hb); have n5_ := Aside0.mk (hbox); have n6_ := Aside0.mk ((by rw [hg]; exact (below_size (by repeat (first | (with_reducible first | exact HB.out | apply below_alloc | apply pw_below_drewN | apply below_drew1 | refine below_set ?_ GE530.out) | exact HB.out))) : w.heap.size ≤ gb542)); have n7_ := Aside0.mk ((by rw [hg]; exact (below_size (by repeat (first | (with_reducible first | exact HB.out | apply below_alloc | apply pw_below_drewN | apply below_drew1 | refine below_set ?_ GE530.out) | exact HB.out))) : w.heap.size ≤ gb542)); have n8_ := Aside0.mk ((by rw [hg]; exact Nat.ne_of_lt (blk_lt (g := gb530) (o := .cells #[.slice A0_0 l0_0.length c0_0] 24 (0, 0)) (by (with_reducible repeat (first | refine blk_drewN ?_ _ | refine blk_drew ?_ | refine blk_alloc ?_ _)); exact BK530.out)) : gb530 ≠ gb542)); have n9_ := Aside0.mk ((by rw [hg]; exact Nat.ne_of_gt (blk_lt (g := gb530) (o := .cells #[.slice A0_0 l0_0.length c0_0] 24 (0, 0)) (by (with_reducible repeat (first | refine blk_drewN ?_ _ | refine blk_drew ?_ | refine blk_alloc ?_ _)); exact BK530.out)) : gb542 ≠ gb530)); clear HO534; clear HO537; clear HO541; clear BK530; clear HB; have HO534 := n0_; have HO537 := n1_; have HO541 := n2_; have BK530 := n3_; have HB := n4_; have BK542 := n5_; have GW542 := n6_; have GE542 := n7_; have NB530_542 := n8_; have NB542_530 := n9_; clear n0_ n1_ n2_ n3_ n4_ n5_ n6_ n7_ n8_ n9_; clear hb hbox hg; obtain ⟨Ao26, co26, eo26⟩ := Kd.R_slice HO541.out; subst eo26; have hnb27 := NB542_530.out; have hnc27 := NB530_542.out; have hcz28_0 : w25.cell? ⟨gb542, 0, none⟩ = some (.slice none 0 0) := (blk_cell BK542.out 0).trans rfl; have hfz28_0 := blk_frozen BK542.out 0) | ((with_reducible refine gate_callee (f := 19) rfl ?_); refine goesL_ (some 40) rfl rfl Tryz.func19 (by kernel_rfl) rfl #[.agg #[.slice Ao26 t539.length co26], .string a1, .int .i64 a2] rfl (by (try simp only [List.map_toArray, List.map_cons, List.map_nil]); first | done | rfl | (simp only [List.length_drop, List.length_take]; rfl)) ?_; (with_reducible refine (impl_NearWords.calls k _ _ t539 a1 a2 t543 t546 _ ?side1 ?side2 A14.out).mono ?_); (case side1 => refine (Kd.R_reads' (e := 64) (base := w.heap.size) (ok := fun k_ => (True ∧ some k_ ≠ (.slice Ao21 t532.length co21 : Value).ownBlock)) (n := t539.length) (c := co26) ?_).2.2; exact (by (with_reducible repeat (first | apply Kd.R_alloc | apply Kd.R_drewN | apply Kd.R_drew)); exact (Kd.R_mono (Kd.R_far (p := ⟨gb542, 0, none⟩) (Kd.R_types HO541.out BK542.out (by decide)) (fun _ hk => hk.2) (.slice Ao26 t539.length co26)) (fun _ h_ => h_.1)))); (case side2 => exact (Kd.R_reads' HO541.out).2.1); rintro e w29 ⟨v544, rfl, ho0, hb⟩; refine ⟨_, rfl, ?_⟩; have n0_ := Aside0.mk (Kd.R_below (by (with_reducible repeat (first | apply Kd.R_alloc | apply Kd.R_drewN | apply Kd.R_drew)); exact (Kd.R_mono (Kd.R_far (p := ⟨gb542, 0, none⟩) (Kd.R_types HO534.out BK542.out (by decide)) (fun _ hk => hk.2) (.slice Ao26 t539.length co26)) (fun _ h_ => h_.1))) hb); have n1_ := Aside0.mk (Kd.R_elder' (by (with_reducible repeat (first | apply Kd.R_alloc | apply Kd.R_drewN | apply Kd.R_drew)); exact (Kd.R_mono (Kd.R_far (p := ⟨gb542, 0, none⟩) (Kd.R_types HO537.out BK542.out (by decide)) (fun _ hk => hk.2) (.slice Ao26 t539.length co26)) (fun _ h_ => h_.1))) (Kd.R_base ho0) hb); have n2_ := Aside0.mk (Kd.R_below (by (with_reducible repeat (first | apply Kd.R_alloc | apply Kd.R_drewN | apply Kd.R_drew)); exact (Kd.R_mono (Kd.R_far (p := ⟨gb542, 0, none⟩) (Kd.R_types HO541.out BK542.out (by decide)) (fun _ hk => hk.2) (.slice Ao26 t539.length co26)) (fun _ h_ => h_.1))) hb); have n3_ := Aside0.mk (Kd.R_lower (Kd.R_new' ho0 (Kd.R_lt (by (with_reducible repeat (first | apply Kd.R_alloc | apply Kd.R_drewN | apply Kd.R_drew)); exact (Kd.R_mono (Kd.R_far (p := ⟨gb542, 0, none⟩) (Kd.R_types HO537.out BK542.out (by decide)) (fun _ hk => hk.2) (.slice Ao26 t539.length co26)) (fun _ h_ => h_.1))))) (below_size (by repeat (first | (with_reducible first | exact HB.out | apply below_alloc | apply pw_below_drewN | apply below_drew1 | refine below_set ?_ GE530.out | refine below_set ?_ GE542.out) | exact HB.out)))); have n4_ := Aside0.mk (blk_below (g := gb530) (o := .cells #[.slice A0_0 l0_0.length c0_0] 24 (0, 0)) (by (with_reducible repeat (first | refine blk_drewN ?_ _ | refine blk_drew ?_ | refine blk_alloc ?_ _)); refine blk_far ?_ NB530_542.out _; (with_reducible repeat (first | refine blk_drewN ?_ _ | refine blk_drew ?_ | refine blk_alloc ?_ _)); exact BK530.out) hb); have n5_ := Aside0.mk (blk_below (g := gb542) (o := .cells #[.slice Ao26 t539.length co26] 31 (0, 0)) (by (with_reducible repeat (first | refine blk_drewN ?_ _ | refine blk_drew ?_ | refine blk_alloc ?_ _)); refine blk_put (cs := #[.slice none 0 0]) ?_ 0 _ rfl; (with_reducible repeat (first | refine blk_drewN ?_ _ | refine blk_drew ?_ | refine blk_alloc ?_ _)); exact BK542.out) hb); have n6_ := Aside0.mk (below_step (by repeat (first | (with_reducible first | exact HB.out | apply below_alloc | apply pw_below_drewN | apply below_drew1 | refine below_set ?_ GE530.out | refine below_set ?_ GE542.out) | exact HB.out)) hb); clear HO534; clear HO537; clear HO541; clear BK530; clear BK542; clear HB; have HO534 := n0_; have HO537 := n1_; have HO541 := n2_; have HO545 := n3_; have BK530 := n4_; have BK542 := n5_; have HB := n6_; clear n0_ n1_ n2_ n3_ n4_ n5_ n6_; (try clear hb); (try clear hb2); (try clear hk); (try clear hi); (try clear ho0)))
   (try simp only [Act.put, List.setIfInBounds_toArray, List.set_cons_zero, List.set_cons_succ])
   go_cut [51] (fun v51 wc => ∃ (kq : Nat) (x51_14 : Bool), v51 = .bool x51_14 ∧ Aside0 (laws_FnExactNearWords.j0 kq a1 a2 t535 t538 t543 t546 x51_14 l0_0 t539 = some r) ∧ Aside0 (kq ≤ k) ∧ Aside0 (Kd.R Kd.string 9 wc w.heap.size (fun k_ => some k_ ≠ (v544 : Value).ownBlock) v536 t535) ∧ Aside0 (Kd.R Kd.string 9 wc w.heap.size (fun k_ => some k_ ≠ (v536 : Value).ownBlock) v544 t543) ∧ Aside0 (Kd.R k64 64 wc w.heap.size (fun _ => True) (.slice Ao26 t539.length co26) t539) ∧ Aside0 (wc.heap[gb530]? = some (.cells #[(.slice A0_0 l0_0.length c0_0)] 24 (0, 0))) ∧ Aside0 (wc.heap[gb542]? = some (.cells #[(.slice Ao26 t539.length co26)] 31 (0, 0))) ∧ Aside0 (Below w.heap.size w wc))
   case first =>
    have H := HC15.out
    clear HC15
    replace H := Option.bind_eq_some_iff.mp H
    obtain ⟨t547, A300, H⟩ := H
    replace H : (if t547 = true then (laws_FnExactNearWords.j0 k a1 a2 t535 t538 t543 t546 (t546 != t538) l0_0 t539) else (laws_FnExactNearWords.j0 k a1 a2 t535 t538 t543 t546 true l0_0 t539)) = some r := H
    have A30 := Aside0.mk A300
    clear A300
    by_cases c31 : t547 = true
    ·
     subst c31
     replace H : (laws_FnExactNearWords.j0 k a1 a2 t535 t538 t543 t546 (t546 != t538) l0_0 t539) = some r := by rw [if_pos rfl] at H; exact H
     have H' := Aside0.mk H
     clear H
     obtain ⟨Ao32, co32, eo32⟩ := Kd.R_slice HO545.out
     subst eo32
     obtain ⟨Ao33, co33, eo33⟩ := Kd.R_slice HO537.out
     subst eo33
     go_wp2_with (first | ((with_reducible refine gate_callee (f := 10) rfl ?_); refine goesL_ (some 45) rfl rfl Tryz.func10 (by kernel_rfl) rfl #[.slice Ao32 t543.length co32, .slice Ao33 t535.length co33] rfl (by (try simp only [List.map_toArray, List.map_cons, List.map_nil]); first | done | rfl | (simp only [List.length_drop, List.length_take]; rfl)) ?_; (with_reducible refine (laws_eqStringS.calls k _ _ t543 _ _ t535 true _ ?side1 ?side2 ?side3 ?side4 A30.out).mono ?_); (case side1 => repeat (first | exact (Kd.R_reads' HO545.out).2.2 | (with_reducible refine Kd.C_alloc ?_ _) | (with_reducible refine Kd.C_drewN ?_ _) | (with_reducible refine Kd.C_drew ?_))); (case side2 => exact (Kd.R_reads' HO545.out).2.1); (case side3 => repeat (first | exact (Kd.R_reads' HO537.out).2.2 | (with_reducible refine Kd.C_alloc ?_ _) | (with_reducible refine Kd.C_drewN ?_ _) | (with_reducible refine Kd.C_drew ?_))); (case side4 => exact (Kd.R_reads' HO537.out).2.1); rintro e w' ⟨rfl, ⟨nd, rfl⟩⟩; refine ⟨_, rfl, ?_⟩))
     go_meet
     case rel => exact ⟨_, ((t546 != t538)), (by first | rfl | (simp; done) | (simp [*]; done)), H', ⟨by first | omega | exact Nat.le_refl _⟩, ⟨by (with_reducible repeat (first | apply Kd.R_alloc | apply Kd.R_drewN | apply Kd.R_drew)); exact Kd.R_mono HO537.out (fun _ hk => hk.2)⟩, ⟨by (with_reducible repeat (first | apply Kd.R_alloc | apply Kd.R_drewN | apply Kd.R_drew)); exact Kd.R_mono HO545.out (fun _ hk => hk.2)⟩, ⟨by (with_reducible repeat (first | apply Kd.R_alloc | apply Kd.R_drewN | apply Kd.R_drew)); exact Kd.R_mono HO541.out (fun _ hk => trivial)⟩, ⟨by (with_reducible repeat (first | refine blk_drewN ?_ _ | refine blk_drew ?_ | refine blk_alloc ?_ _)); exact BK530.out⟩, ⟨by (with_reducible repeat (first | refine blk_drewN ?_ _ | refine blk_drew ?_ | refine blk_alloc ?_ _)); exact BK542.out⟩, ⟨by repeat (first | (with_reducible first | exact HB.out | apply below_alloc | apply pw_below_drewN | apply below_drew1 | refine below_set ?_ GE530.out | refine below_set ?_ GE542.out) | exact HB.out)⟩⟩
    ·
     replace c31 := Bool.eq_false_iff.mpr c31
     subst c31
     replace H : (laws_FnExactNearWords.j0 k a1 a2 t535 t538 t543 t546 true l0_0 t539) = some r := by rw [if_neg (show ¬ (false = true) by decide)] at H; exact H
     have H' := Aside0.mk H
     clear H
     obtain ⟨Ao34, co34, eo34⟩ := Kd.R_slice HO545.out
     subst eo34
     obtain ⟨Ao35, co35, eo35⟩ := Kd.R_slice HO537.out
     subst eo35
     go_wp2_with (first | ((with_reducible refine gate_callee (f := 10) rfl ?_); refine goesL_ (some 45) rfl rfl Tryz.func10 (by kernel_rfl) rfl #[.slice Ao34 t543.length co34, .slice Ao35 t535.length co35] rfl (by (try simp only [List.map_toArray, List.map_cons, List.map_nil]); first | done | rfl | (simp only [List.length_drop, List.length_take]; rfl)) ?_; (with_reducible refine (laws_eqStringS.calls k _ _ t543 _ _ t535 false _ ?side1 ?side2 ?side3 ?side4 A30.out).mono ?_); (case side1 => repeat (first | exact (Kd.R_reads' HO545.out).2.2 | (with_reducible refine Kd.C_alloc ?_ _) | (with_reducible refine Kd.C_drewN ?_ _) | (with_reducible refine Kd.C_drew ?_))); (case side2 => exact (Kd.R_reads' HO545.out).2.1); (case side3 => repeat (first | exact (Kd.R_reads' HO537.out).2.2 | (with_reducible refine Kd.C_alloc ?_ _) | (with_reducible refine Kd.C_drewN ?_ _) | (with_reducible refine Kd.C_drew ?_))); (case side4 => exact (Kd.R_reads' HO537.out).2.1); rintro e w' ⟨rfl, ⟨nd, rfl⟩⟩; refine ⟨_, rfl, ?_⟩))
     go_meet
     case rel => exact ⟨_, (true), (by first | rfl | (simp; done) | (simp [*]; done)), H', ⟨by first | omega | exact Nat.le_refl _⟩, ⟨by (with_reducible repeat (first | apply Kd.R_alloc | apply Kd.R_drewN | apply Kd.R_drew)); exact Kd.R_mono HO537.out (fun _ hk => hk.2)⟩, ⟨by (with_reducible repeat (first | apply Kd.R_alloc | apply Kd.R_drewN | apply Kd.R_drew)); exact Kd.R_mono HO545.out (fun _ hk => hk.2)⟩, ⟨by (with_reducible repeat (first | apply Kd.R_alloc | apply Kd.R_drewN | apply Kd.R_drew)); exact Kd.R_mono HO541.out (fun _ hk => trivial)⟩, ⟨by (with_reducible repeat (first | refine blk_drewN ?_ _ | refine blk_drew ?_ | refine blk_alloc ?_ _)); exact BK530.out⟩, ⟨by (with_reducible repeat (first | refine blk_drewN ?_ _ | refine blk_drew ?_ | refine blk_alloc ?_ _)); exact BK542.out⟩, ⟨by repeat (first | (with_reducible first | exact HB.out | apply below_alloc | apply pw_below_drewN | apply below_drew1 | refine below_set ?_ GE530.out | refine below_set ?_ GE542.out) | exact HB.out)⟩⟩
   case rest =>
    clear HC15
    try clear c1
    try clear c2
    try clear p2
    try clear c3
    try clear c4
    try clear c4b0
    try clear c4b1
    try clear c5
    try clear c6
    try clear c7
    try clear c7b0
    try clear c8
    try clear c10
    try clear c18
    try clear c19
    try clear c27
    try clear c31
    try clear hcz17_0
    try clear hcz19_0
    try clear hcz23_0
    try clear hcz28_0
    try clear hcz9_0
    try clear hfz17_0
    try clear hfz19_0
    try clear hfz23_0
    try clear hfz28_0
    try clear hfz9_0
    obtain ⟨kq, x51_14, rfl, HA, HJ14, HO_8, HO_11, HO_543000, BK530, BK542, HB⟩ := hcut
    cases kq with
    | zero => exact absurd HA.out (by simp [laws_FnExactNearWords.j0])
    | succ kj14 =>
     have H := HA.out
     clear HA
     simp only [laws_FnExactNearWords.j0] at H
     by_cases c36 : x51_14 = true
     ·
      subst c36
      replace H : (some false) = some r := by rw [if_pos rfl] at H; exact H
      obtain rfl := Option.some.inj H
      go_wp2
      go_ret
      exact ⟨by first | rfl | (simp [errW_none, errW_some] <;> rfl) | (simp [*, errW_none, errW_some] <;> rfl), by repeat (first | (with_reducible first | exact HB.out | apply below_alloc | apply pw_below_drewN | apply below_drew1 | refine below_set ?_ GE530.out | refine below_set ?_ GE542.out) | exact HB.out)⟩
     ·
      replace c36 := Bool.eq_false_iff.mpr c36
      subst c36
      replace H : ((laws_toTrie.f kj14 l0_0).bind fun t548 => ((laws_eqTrie.f kj14 t539 t548).bind fun t551 => (if t551 = true then ((laws_markTrie.f kj14 t539 1).bind fun bt552 => (if bt552.1 < 0 then (laws_FnExactNearWords.j1 kj14 a1 a2 t535 t538 t543 true l0_0) else ((laws_eqStringS.f kj14 t543 t535).bind fun t554 => (if t554 = true then (laws_FnExactNearWords.j1 kj14 a1 a2 t535 t538 t543 (t546 != t538) l0_0) else (laws_FnExactNearWords.j1 kj14 a1 a2 t535 t538 t543 true l0_0))))) else (some false)))) = some r := by rw [if_neg (show ¬ (false = true) by decide)] at H; exact H
      replace H := Option.bind_eq_some_iff.mp H
      obtain ⟨t548, A370, H⟩ := H
      replace H : ((laws_eqTrie.f kj14 t539 t548).bind fun t551 => (if t551 = true then ((laws_markTrie.f kj14 t539 1).bind fun bt552 => (if bt552.1 < 0 then (laws_FnExactNearWords.j1 kj14 a1 a2 t535 t538 t543 true l0_0) else ((laws_eqStringS.f kj14 t543 t535).bind fun t554 => (if t554 = true then (laws_FnExactNearWords.j1 kj14 a1 a2 t535 t538 t543 (t546 != t538) l0_0) else (laws_FnExactNearWords.j1 kj14 a1 a2 t535 t538 t543 true l0_0))))) else (some false))) = some r := H
      have A37 := Aside0.mk A370
      clear A370
      replace H := Option.bind_eq_some_iff.mp H
      obtain ⟨t551, A380, H⟩ := H
      replace H : (if t551 = true then ((laws_markTrie.f kj14 t539 1).bind fun bt552 => (if bt552.1 < 0 then (laws_FnExactNearWords.j1 kj14 a1 a2 t535 t538 t543 true l0_0) else ((laws_eqStringS.f kj14 t543 t535).bind fun t554 => (if t554 = true then (laws_FnExactNearWords.j1 kj14 a1 a2 t535 t538 t543 (t546 != t538) l0_0) else (laws_FnExactNearWords.j1 kj14 a1 a2 t535 t538 t543 true l0_0))))) else (some false)) = some r := H
      have A38 := Aside0.mk A380
      clear A380
      by_cases c39 : t551 = true
      ·
       subst c39
       replace H : ((laws_markTrie.f kj14 t539 1).bind fun bt552 => (if bt552.1 < 0 then (laws_FnExactNearWords.j1 kj14 a1 a2 t535 t538 t543 true l0_0) else ((laws_eqStringS.f kj14 t543 t535).bind fun t554 => (if t554 = true then (laws_FnExactNearWords.j1 kj14 a1 a2 t535 t538 t543 (t546 != t538) l0_0) else (laws_FnExactNearWords.j1 kj14 a1 a2 t535 t538 t543 true l0_0))))) = some r := by rw [if_pos rfl] at H; exact H
       replace H := Option.bind_eq_some_iff.mp H
       obtain ⟨⟨t552, t553⟩, A400, H⟩ := H
       replace H : (if t552 < 0 then (laws_FnExactNearWords.j1 kj14 a1 a2 t535 t538 t543 true l0_0) else ((laws_eqStringS.f kj14 t543 t535).bind fun t554 => (if t554 = true then (laws_FnExactNearWords.j1 kj14 a1 a2 t535 t538 t543 (t546 != t538) l0_0) else (laws_FnExactNearWords.j1 kj14 a1 a2 t535 t538 t543 true l0_0)))) = some r := H
       have A40 := Aside0.mk A400
       clear A400
       have HC41 := Aside0.mk H
       clear H
       try go_wp2
       have n0_ := Aside0.mk (Kd.R_drew HO_8.out)
       have n1_ := Aside0.mk (Kd.R_drew HO_11.out)
       have n2_ := Aside0.mk (Kd.R_drew HO_543000.out)
       have n3_ := Aside0.mk (blk_drew BK530.out)
       have n4_ := Aside0.mk (blk_drew BK542.out)
       have n5_ := Aside0.mk (below_drew1 HB.out)
       clear HO_8
       clear HO_11
       clear HO_543000
       clear BK530
       clear BK542
       clear HB
       have HO_8 := n0_
       have HO_11 := n1_
       have HO_543000 := n2_
       have BK530 := n3_
       have BK542 := n4_
       have HB := n5_
       clear n0_ n1_ n2_ n3_ n4_ n5_
       refine start_ (n := 5) (S := fun w' => w'.cell? ⟨gb542, 0, none⟩ = some (.slice Ao26 t539.length co26) ∧ w'.cell? ⟨gb530, 0, none⟩ = some (.slice A0_0 l0_0.length c0_0)) (ds := []) #[false, false, false, false, false] (by kernel_rfl) rfl rfl ⟨(blk_cell BK542.out 0).trans rfl, (blk_cell BK530.out 0).trans rfl⟩ (fun hHeld => ?_)
       generalize wc.drew = w42 at HO_8 HO_11 HO_543000 BK530 BK542 HB hHeld ⊢
       refine take_ (i := 0) (N := some 52) (v := ?_) (a' := ?_) #[true, false, false, false, false] rfl rfl (by kernel_rfl) (fun _ _ _ h => h) (Or.inl ⟨by rfl, ?_⟩) hHeld ?_ ?_
       rotate_left
       ·
        rintro w' ⟨s0, s1⟩
        go_simp
        with_reducible rfl
       rotate_left
       ·
        simp only [Act.put, List.setIfInBounds_toArray, List.set_cons_zero, List.set_cons_succ, i64_w, i32_w]
        rfl
       refine take_ (i := 1) (N := some 53) (v := ?_) (a' := ?_) #[true, true, false, false, false] rfl rfl (by kernel_rfl) (fun _ _ _ h => h) (Or.inl ⟨by rfl, ?_⟩) hHeld ?_ ?_
       rotate_left
       ·
        rintro w' ⟨s0, s1⟩
        go_simp
        with_reducible rfl
       rotate_left
       ·
        simp only [Act.put, List.setIfInBounds_toArray, List.set_cons_zero, List.set_cons_succ, i64_w, i32_w]
        rfl
       refine one_ (i := 2) (N := some 54) #[true, true, true, false, false] rfl rfl (by kernel_rfl) (by decide) (fun K hK => ?_)
       refine goes_ Tryz.func8 (by kernel_rfl) rfl #[.agg #[.slice A0_0 l0_0.length c0_0]] (by rfl) rfl rfl (by (try simp only [List.map_toArray, List.map_cons, List.map_nil]); first | done | rfl | (simp only [List.length_drop, List.length_take]; rfl)) ?_
       with_reducible refine (laws_toTrie.calls kj14 _ _ l0_0 t548 _ ?side1 ?side2 A37.out).mono ?_
       (case side1 => repeat (first | exact (Kd.C_below HR0_0.out HB.out) | (with_reducible refine Kd.C_alloc ?_ _) | (with_reducible refine Kd.C_drewN ?_ _) | (with_reducible refine Kd.C_drew ?_)))
       (case side2 => exact HC0_0.out)
       rintro e w43 ⟨v549, rfl, ho0, hb⟩
       refine ⟨_, rfl, ?_⟩
       have n0_ := Aside0.mk (Kd.R_below (by (with_reducible repeat (first | apply Kd.R_alloc | apply Kd.R_drewN | apply Kd.R_drew)); exact HO_8.out) hb)
       have n1_ := Aside0.mk (Kd.R_below (by (with_reducible repeat (first | apply Kd.R_alloc | apply Kd.R_drewN | apply Kd.R_drew)); exact HO_11.out) hb)
       have n2_ := Aside0.mk (Kd.R_elder' (by (with_reducible repeat (first | apply Kd.R_alloc | apply Kd.R_drewN | apply Kd.R_drew)); exact HO_543000.out) (Kd.R_base ho0) hb)
       have n3_ := Aside0.mk (Kd.R_lower (Kd.R_new' ho0 (Kd.R_lt (by (with_reducible repeat (first | apply Kd.R_alloc | apply Kd.R_drewN | apply Kd.R_drew)); exact HO_543000.out))) (below_size (by repeat (first | (with_reducible first | exact HB.out | apply below_alloc | apply pw_below_drewN | apply below_drew1 | refine below_set ?_ GE530.out | refine below_set ?_ GE542.out) | exact HB.out))))
       have n4_ := Aside0.mk (blk_below (g := gb530) (o := .cells #[.slice A0_0 l0_0.length c0_0] 24 (0, 0)) (by (with_reducible repeat (first | refine blk_drewN ?_ _ | refine blk_drew ?_ | refine blk_alloc ?_ _)); exact BK530.out) hb)
       have n5_ := Aside0.mk (blk_below (g := gb542) (o := .cells #[.slice Ao26 t539.length co26] 31 (0, 0)) (by (with_reducible repeat (first | refine blk_drewN ?_ _ | refine blk_drew ?_ | refine blk_alloc ?_ _)); exact BK542.out) hb)
       have n6_ := Aside0.mk (below_step (by repeat (first | (with_reducible first | exact HB.out | apply below_alloc | apply pw_below_drewN | apply below_drew1 | refine below_set ?_ GE530.out | refine below_set ?_ GE542.out) | exact HB.out)) hb)
       clear HO_8
       clear HO_11
       clear HO_543000
       clear BK530
       clear BK542
       clear HB
       have HO_8 := n0_
       have HO_11 := n1_
       have HO_543000 := n2_
       have HO550 := n3_
       have BK530 := n4_
       have BK542 := n5_
       have HB := n6_
       clear n0_ n1_ n2_ n3_ n4_ n5_ n6_
       (try clear hb)
       (try clear hb2)
       (try clear hk)
       (try clear hi)
       (try clear ho0)
       obtain ⟨Ao44, co44, eo44⟩ := Kd.R_slice HO550.out
       (first | subst eo44 | (injection eo44 with f1_ f2_ f3_; have f4_ := f1_.symm; have f5_ := f3_.symm; clear f1_ f2_ f3_; subst f4_; subst f5_))
       refine hK.out _ _ ⟨(blk_cell BK542.out 0).trans rfl, (blk_cell BK530.out 0).trans rfl⟩ (fun hHeld => ?_)
       clear hK K
       refine norm_ (a' := ?_) ?_ ?_
       rotate_left
       ·
        show Act.put _ (some 54) _ = _
        simp only [Act.put, List.setIfInBounds_toArray, List.set_cons_zero, List.set_cons_succ, i64_w, i32_w]
        rfl
       refine one_ (i := 3) (N := some 55) #[true, true, true, true, false] rfl rfl (by kernel_rfl) (by decide) (fun K hK => ?_)
       refine goes_ Tryz.func11 (by kernel_rfl) rfl #[.agg #[.slice Ao26 t539.length co26], .agg #[.slice Ao44 t548.length co44]] (by rfl) rfl rfl (by (try simp only [List.map_toArray, List.map_cons, List.map_nil]); first | done | rfl | (simp only [List.length_drop, List.length_take]; rfl)) ?_
       with_reducible refine (laws_eqTrie.calls kj14 _ _ t539 _ _ t548 true _ ?side1 ?side2 ?side3 ?side4 A38.out).mono ?_
       (case side1 => repeat (first | exact (Kd.R_reads' HO_543000.out).2.2 | (with_reducible refine Kd.C_alloc ?_ _) | (with_reducible refine Kd.C_drewN ?_ _) | (with_reducible refine Kd.C_drew ?_)))
       (case side2 => exact (Kd.R_reads' HO_543000.out).2.1)
       (case side3 => repeat (first | exact (Kd.R_reads' HO550.out).2.2 | (with_reducible refine Kd.C_alloc ?_ _) | (with_reducible refine Kd.C_drewN ?_ _) | (with_reducible refine Kd.C_drew ?_)))
       (case side4 => exact (Kd.R_reads' HO550.out).2.1)
       rintro e w45 ⟨rfl, hb⟩
       refine ⟨_, rfl, ?_⟩
       have n0_ := Aside0.mk (Kd.R_below (by (with_reducible repeat (first | apply Kd.R_alloc | apply Kd.R_drewN | apply Kd.R_drew)); exact HO_8.out) hb)
       have n1_ := Aside0.mk (Kd.R_below (by (with_reducible repeat (first | apply Kd.R_alloc | apply Kd.R_drewN | apply Kd.R_drew)); exact HO_11.out) hb)
       have n2_ := Aside0.mk (Kd.R_below (by (with_reducible repeat (first | apply Kd.R_alloc | apply Kd.R_drewN | apply Kd.R_drew)); exact HO_543000.out) hb)
       have n3_ := Aside0.mk (Kd.R_below (by (with_reducible repeat (first | apply Kd.R_alloc | apply Kd.R_drewN | apply Kd.R_drew)); exact HO550.out) hb)
       have n4_ := Aside0.mk (blk_below (g := gb530) (o := .cells #[.slice A0_0 l0_0.length c0_0] 24 (0, 0)) (by (with_reducible repeat (first | refine blk_drewN ?_ _ | refine blk_drew ?_ | refine blk_alloc ?_ _)); exact BK530.out) hb)
       have n5_ := Aside0.mk (blk_below (g := gb542) (o := .cells #[.slice Ao26 t539.length co26] 31 (0, 0)) (by (with_reducible repeat (first | refine blk_drewN ?_ _ | refine blk_drew ?_ | refine blk_alloc ?_ _)); exact BK542.out) hb)
       have n6_ := Aside0.mk (below_step (by repeat (first | (with_reducible first | exact HB.out | apply below_alloc | apply pw_below_drewN | apply below_drew1 | refine below_set ?_ GE530.out | refine below_set ?_ GE542.out) | exact HB.out)) hb)
       clear HO_8
       clear HO_11
       clear HO_543000
       clear HO550
       clear BK530
       clear BK542
       clear HB
       have HO_8 := n0_
       have HO_11 := n1_
       have HO_543000 := n2_
       have HO550 := n3_
       have BK530 := n4_
       have BK542 := n5_
       have HB := n6_
       clear n0_ n1_ n2_ n3_ n4_ n5_ n6_
       (try clear hb)
       (try clear hb2)
       (try clear hk)
       (try clear hi)
       refine hK.out _ _ ⟨(blk_cell BK542.out 0).trans rfl, (blk_cell BK530.out 0).trans rfl⟩ (fun hHeld => ?_)
       clear hK K
       refine norm_ (a' := ?_) ?_ ?_
       rotate_left
       ·
        show Act.put _ (some 55) _ = _
        simp only [Act.put, List.setIfInBounds_toArray, List.set_cons_zero, List.set_cons_succ, i64_w, i32_w]
        rfl
       refine pure_ (i := 4) (N := some 56) (v := ?_) (a' := ?_) #[true, true, true, true, true] rfl rfl (by kernel_rfl) (fun _ _ _ h => h) (Or.inl ⟨by rfl, ?_⟩) ?_ ?_
       rotate_left
       ·
        intro w'
        go_simp
        with_reducible rfl
       rotate_left
       ·
        simp only [Act.put, List.setIfInBounds_toArray, List.set_cons_zero, List.set_cons_succ, i64_w, i32_w]
        rfl
       refine done_ (by kernel_rfl) ?_
       have hnb46 := NB542_530.out
       have hnc46 := NB530_542.out
       have hcz47_0 : w45.cell? ⟨gb542, 0, none⟩ = some (.slice Ao26 t539.length co26) := (blk_cell BK542.out 0).trans rfl
       have hfz47_0 := blk_frozen BK542.out 0
       go_upto_region 16 with (first | ((with_reducible refine gate_callee (f := 12) rfl ?_); refine goesL_ (some 59) rfl rfl Tryz.func12 (by kernel_rfl) rfl #[.agg #[.slice Ao26 t539.length co26], .int .i64 1] rfl (by (try simp only [List.map_toArray, List.map_cons, List.map_nil]); first | done | rfl | (simp only [List.length_drop, List.length_take]; rfl)) ?_; (with_reducible refine (laws_markTrie.calls kj14 (fun k_ => some k_ = (.slice Ao26 t539.length co26 : Value).ownBlock) (.slice Ao26 t539.length co26) t539 1 t552 t553 w _ ?side1 ?side2 A40.out).mono ?_); (case side1 => repeat (first | (with_reducible first | exact HB.out | apply below_alloc | apply pw_below_drewN | apply below_drew1 | refine below_set ?_ GE530.out | refine below_set ?_ GE542.out) | exact HB.out)); (case side2 => exact Kd.R_tight rfl HO_543000.out); rintro e w48 ⟨rfl, hy0, hb, hkp⟩; refine ⟨_, rfl, ?_⟩; have n0_ := Aside0.mk (Kd.R_mono (ok' := fun k_ => some k_ ≠ (v544 : Value).ownBlock) (Kd.R_keptB ((Kd.R_apart' HO_8.out (Kd.R_typed HO_543000.out) (by decide))) hkp (fun k_ hk_ hs_ => (hk_.2) hs_)) (fun k_ hk_ => hk_.1.1)); have n1_ := Aside0.mk (Kd.R_mono (ok' := fun k_ => some k_ ≠ (v536 : Value).ownBlock) (Kd.R_keptB ((Kd.R_apart' HO_11.out (Kd.R_typed HO_543000.out) (by decide))) hkp (fun k_ hk_ hs_ => (hk_.2) hs_)) (fun k_ hk_ => hk_.1.1)); have n2_ := Aside0.mk (Kd.R_reok rfl hy0 (fun k_ e_ => HO_543000.out.1 k_ e_)); have n3_ := Aside0.mk (blk_kept (by (with_reducible repeat (first | refine blk_drewN ?_ _ | refine blk_drew ?_ | refine blk_alloc ?_ _)); exact BK530.out) hkp (fun hs_ => (fun e_ => (Kd.R_ne HO_543000.out BK530.out (by decide)) e_) hs_)); have n4_ := Aside0.mk (blk_kept (by (with_reducible repeat (first | refine blk_drewN ?_ _ | refine blk_drew ?_ | refine blk_alloc ?_ _)); exact BK542.out) hkp (fun hs_ => (fun e_ => (Kd.R_ne HO_543000.out BK542.out (by decide)) e_) hs_)); have n5_ := Aside0.mk (Kd.R_mono (ok' := fun k_ => some k_ ≠ (.slice Ao26 t539.length co26 : Value).ownBlock) (Kd.R_keptB (HO550.out) hkp (fun k_ hk_ hs_ => (hk_.2) hs_)) (fun k_ hk_ => hk_.1.2)); have n6_ := Aside0.mk (hb); clear HO_8; clear HO_11; clear HO_543000; clear BK530; clear BK542; clear HO550; clear HB; have HO_8 := n0_; have HO_11 := n1_; have HO_543000 := n2_; have BK530 := n3_; have BK542 := n4_; have HO550 := n5_; have HB := n6_; clear n0_ n1_ n2_ n3_ n4_ n5_ n6_; (try clear hb); (try clear hkp); (try clear hy0)))
       (try simp only [Act.put, List.setIfInBounds_toArray, List.set_cons_zero, List.set_cons_succ])
       go_cut [72] (fun v72 wc => ∃ (kq : Nat) (x72_40 : Bool), v72 = .bool x72_40 ∧ Aside0 (laws_FnExactNearWords.j1 kq a1 a2 t535 t538 t543 x72_40 l0_0 = some r) ∧ Aside0 (kq ≤ kj14) ∧ Aside0 (Kd.R Kd.string 9 wc w.heap.size (fun k_ => some k_ ≠ (v544 : Value).ownBlock) v536 t535) ∧ Aside0 (Kd.R Kd.string 9 wc w.heap.size (fun k_ => some k_ ≠ (v536 : Value).ownBlock) v544 t543) ∧ Aside0 (Kd.R k64 64 wc w.heap.size (fun _ => True) (.slice Ao26 t539.length co26) t553) ∧ Aside0 (wc.heap[gb530]? = some (.cells #[(.slice A0_0 l0_0.length c0_0)] 24 (0, 0))) ∧ Aside0 (wc.heap[gb542]? = some (.cells #[(.slice Ao26 t539.length co26)] 31 (0, 0))) ∧ Aside0 (Below w.heap.size w wc))
       case first =>
        have H := HC41.out
        clear HC41
        by_cases c49 : t552 < 0
        ·
         rw [if_pos c49] at H
         have c49b0 : decide (t552 < 0) = true := decide_eq_true c49
         clear c49
         (first | rw [c49b0] | (simp only [i64_w, i32_w]; rw [c49b0]) | skip)
         have H' := Aside0.mk H
         clear H
         go_wp2
         go_meet
         case rel => exact ⟨_, (true), (by first | rfl | (simp; done) | (simp [*]; done)), H', ⟨by have := HJ14.out; first | omega | exact Nat.le_refl _⟩, ⟨by (with_reducible repeat (first | apply Kd.R_alloc | apply Kd.R_drewN | apply Kd.R_drew)); exact HO_8.out⟩, ⟨by (with_reducible repeat (first | apply Kd.R_alloc | apply Kd.R_drewN | apply Kd.R_drew)); exact HO_11.out⟩, ⟨by (with_reducible repeat (first | apply Kd.R_alloc | apply Kd.R_drewN | apply Kd.R_drew)); exact Kd.R_mono HO_543000.out (fun _ hk => trivial)⟩, ⟨by (with_reducible repeat (first | refine blk_drewN ?_ _ | refine blk_drew ?_ | refine blk_alloc ?_ _)); exact BK530.out⟩, ⟨by (with_reducible repeat (first | refine blk_drewN ?_ _ | refine blk_drew ?_ | refine blk_alloc ?_ _)); exact BK542.out⟩, ⟨by repeat (first | (with_reducible first | exact HB.out | apply below_alloc | apply pw_below_drewN | apply below_drew1 | refine below_set ?_ GE530.out | refine below_set ?_ GE542.out) | exact HB.out)⟩⟩
        ·
         rw [if_neg c49] at H
         have c49b0 : decide (t552 < 0) = false := decide_eq_false c49
         clear c49
         (first | rw [c49b0] | (simp only [i64_w, i32_w]; rw [c49b0]) | skip)
         replace H := Option.bind_eq_some_iff.mp H
         obtain ⟨t554, A500, H⟩ := H
         replace H : (if t554 = true then (laws_FnExactNearWords.j1 kj14 a1 a2 t535 t538 t543 (t546 != t538) l0_0) else (laws_FnExactNearWords.j1 kj14 a1 a2 t535 t538 t543 true l0_0)) = some r := H
         have A50 := Aside0.mk A500
         clear A500
         by_cases c51 : t554 = true
         ·
          subst c51
          replace H : (laws_FnExactNearWords.j1 kj14 a1 a2 t535 t538 t543 (t546 != t538) l0_0) = some r := by rw [if_pos rfl] at H; exact H
          have H' := Aside0.mk H
          clear H
          obtain ⟨Ao52, co52, eo52⟩ := Kd.R_slice HO_11.out
          subst eo52
          obtain ⟨Ao53, co53, eo53⟩ := Kd.R_slice HO_8.out
          subst eo53
          go_wp2_with (first | (go_at_call 10; (with_reducible refine (laws_eqStringS.calls kj14 _ _ t543 _ _ t535 true _ ?side1 ?side2 ?side3 ?side4 A50.out).mono ?_); (case side1 => repeat (first | exact (Kd.R_reads' HO_11.out).2.2 | (with_reducible refine Kd.C_alloc ?_ _) | (with_reducible refine Kd.C_drewN ?_ _) | (with_reducible refine Kd.C_drew ?_))); (case side2 => exact (Kd.R_reads' HO_11.out).2.1); (case side3 => repeat (first | exact (Kd.R_reads' HO_8.out).2.2 | (with_reducible refine Kd.C_alloc ?_ _) | (with_reducible refine Kd.C_drewN ?_ _) | (with_reducible refine Kd.C_drew ?_))); (case side4 => exact (Kd.R_reads' HO_8.out).2.1); rintro e w' ⟨rfl, ⟨nd, rfl⟩⟩))
          go_meet
          case rel => exact ⟨_, ((t546 != t538)), (by first | rfl | (simp; done) | (simp [*]; done)), H', ⟨by have := HJ14.out; first | omega | exact Nat.le_refl _⟩, ⟨by (with_reducible repeat (first | apply Kd.R_alloc | apply Kd.R_drewN | apply Kd.R_drew)); exact HO_8.out⟩, ⟨by (with_reducible repeat (first | apply Kd.R_alloc | apply Kd.R_drewN | apply Kd.R_drew)); exact HO_11.out⟩, ⟨by (with_reducible repeat (first | apply Kd.R_alloc | apply Kd.R_drewN | apply Kd.R_drew)); exact Kd.R_mono HO_543000.out (fun _ hk => trivial)⟩, ⟨by (with_reducible repeat (first | refine blk_drewN ?_ _ | refine blk_drew ?_ | refine blk_alloc ?_ _)); exact BK530.out⟩, ⟨by (with_reducible repeat (first | refine blk_drewN ?_ _ | refine blk_drew ?_ | refine blk_alloc ?_ _)); exact BK542.out⟩, ⟨by repeat (first | (with_reducible first | exact HB.out | apply below_alloc | apply pw_below_drewN | apply below_drew1 | refine below_set ?_ GE530.out | refine below_set ?_ GE542.out) | exact HB.out)⟩⟩
         ·
          replace c51 := Bool.eq_false_iff.mpr c51
          subst c51
          replace H : (laws_FnExactNearWords.j1 kj14 a1 a2 t535 t538 t543 true l0_0) = some r := by rw [if_neg (show ¬ (false = true) by decide)] at H; exact H
          have H' := Aside0.mk H
          clear H
          obtain ⟨Ao54, co54, eo54⟩ := Kd.R_slice HO_11.out
          subst eo54
          obtain ⟨Ao55, co55, eo55⟩ := Kd.R_slice HO_8.out
          subst eo55
          go_wp2_with (first | (go_at_call 10; (with_reducible refine (laws_eqStringS.calls kj14 _ _ t543 _ _ t535 false _ ?side1 ?side2 ?side3 ?side4 A50.out).mono ?_); (case side1 => repeat (first | exact (Kd.R_reads' HO_11.out).2.2 | (with_reducible refine Kd.C_alloc ?_ _) | (with_reducible refine Kd.C_drewN ?_ _) | (with_reducible refine Kd.C_drew ?_))); (case side2 => exact (Kd.R_reads' HO_11.out).2.1); (case side3 => repeat (first | exact (Kd.R_reads' HO_8.out).2.2 | (with_reducible refine Kd.C_alloc ?_ _) | (with_reducible refine Kd.C_drewN ?_ _) | (with_reducible refine Kd.C_drew ?_))); (case side4 => exact (Kd.R_reads' HO_8.out).2.1); rintro e w' ⟨rfl, ⟨nd, rfl⟩⟩))
          go_meet
          case rel => exact ⟨_, (true), (by first | rfl | (simp; done) | (simp [*]; done)), H', ⟨by have := HJ14.out; first | omega | exact Nat.le_refl _⟩, ⟨by (with_reducible repeat (first | apply Kd.R_alloc | apply Kd.R_drewN | apply Kd.R_drew)); exact HO_8.out⟩, ⟨by (with_reducible repeat (first | apply Kd.R_alloc | apply Kd.R_drewN | apply Kd.R_drew)); exact HO_11.out⟩, ⟨by (with_reducible repeat (first | apply Kd.R_alloc | apply Kd.R_drewN | apply Kd.R_drew)); exact Kd.R_mono HO_543000.out (fun _ hk => trivial)⟩, ⟨by (with_reducible repeat (first | refine blk_drewN ?_ _ | refine blk_drew ?_ | refine blk_alloc ?_ _)); exact BK530.out⟩, ⟨by (with_reducible repeat (first | refine blk_drewN ?_ _ | refine blk_drew ?_ | refine blk_alloc ?_ _)); exact BK542.out⟩, ⟨by repeat (first | (with_reducible first | exact HB.out | apply below_alloc | apply pw_below_drewN | apply below_drew1 | refine below_set ?_ GE530.out | refine below_set ?_ GE542.out) | exact HB.out)⟩⟩
       case rest =>
        clear HC41
        try clear c1
        try clear c2
        try clear p2
        try clear c3
        try clear c4
        try clear c4b0
        try clear c4b1
        try clear c5
        try clear c6
        try clear c7
        try clear c7b0
        try clear c8
        try clear c10
        try clear c11
        try clear c12
        try clear c18
        try clear c19
        try clear c27
        try clear c31
        try clear c36
        try clear c39
        try clear c46
        try clear c49
        try clear c49b0
        try clear c51
        try clear hcz17_0
        try clear hcz19_0
        try clear hcz23_0
        try clear hcz28_0
        try clear hcz47_0
        try clear hcz9_0
        try clear hfz17_0
        try clear hfz19_0
        try clear hfz23_0
        try clear hfz28_0
        try clear hfz47_0
        try clear hfz9_0
        try clear p2
        obtain ⟨kq, x72_40, rfl, HA, HJ40, HO_8, HO_11, HO_543000, BK530, BK542, HB⟩ := hcut
        have hl543000_40 := (Kd.R_reads' HO_543000.out).1
        rw [hl543000_40] at HO_543000
        (try simp only [hl543000_40])
        (try simp only [hl543000_40] at BK530)
        (try simp only [hl543000_40] at BK542)
        (try simp only [hl543000_40] at HO_8)
        (try simp only [hl543000_40] at HO_11)
        cases kq with
        | zero => exact absurd HA.out (by simp [laws_FnExactNearWords.j1])
        | succ kj40 =>
         have H := HA.out
         clear HA
         simp only [laws_FnExactNearWords.j1] at H
         by_cases c56 : x72_40 = true
         ·
          subst c56
          replace H : (some false) = some r := by rw [if_pos rfl] at H; exact H
          obtain rfl := Option.some.inj H
          go_wp2
          go_ret
          exact ⟨by first | rfl | (simp [errW_none, errW_some] <;> rfl) | (simp [*, errW_none, errW_some] <;> rfl), by repeat (first | (with_reducible first | exact HB.out | apply below_alloc | apply pw_below_drewN | apply below_drew1 | refine below_set ?_ GE530.out | refine below_set ?_ GE542.out) | exact HB.out)⟩
         ·
          replace c56 := Bool.eq_false_iff.mpr c56
          subst c56
          replace H : ((laws_markStringS.f kj40 t543 1).bind fun bt555 => ((laws_heldStringS.f kj40 bt555.2 1).bind fun t557 => (if t557 < 0 then (some false) else (if t557 = bt555.1 then ((laws_toTrie.f kj40 l0_0).bind fun t558 => ((impl_NearWords.f kj40 t558 a1 a2).bind fun bt561 => ((laws_eqStringS.f kj40 bt561.1 t535).bind fun t565 => (if t565 = true then (laws_FnExactNearWords.j2 kj40 bt555.2 bt555.1 (bt561.2 != t538)) else (laws_FnExactNearWords.j2 kj40 bt555.2 bt555.1 true))))) else (some false))))) = some r := by rw [if_neg (show ¬ (false = true) by decide)] at H; exact H
          replace H := Option.bind_eq_some_iff.mp H
          obtain ⟨⟨t555, t556⟩, A570, H⟩ := H
          replace H : ((laws_heldStringS.f kj40 t556 1).bind fun t557 => (if t557 < 0 then (some false) else (if t557 = t555 then ((laws_toTrie.f kj40 l0_0).bind fun t558 => ((impl_NearWords.f kj40 t558 a1 a2).bind fun bt561 => ((laws_eqStringS.f kj40 bt561.1 t535).bind fun t565 => (if t565 = true then (laws_FnExactNearWords.j2 kj40 t556 t555 (bt561.2 != t538)) else (laws_FnExactNearWords.j2 kj40 t556 t555 true))))) else (some false)))) = some r := H
          have A57 := Aside0.mk A570
          clear A570
          replace H := Option.bind_eq_some_iff.mp H
          obtain ⟨t557, A580, H⟩ := H
          replace H : (if t557 < 0 then (some false) else (if t557 = t555 then ((laws_toTrie.f kj40 l0_0).bind fun t558 => ((impl_NearWords.f kj40 t558 a1 a2).bind fun bt561 => ((laws_eqStringS.f kj40 bt561.1 t535).bind fun t565 => (if t565 = true then (laws_FnExactNearWords.j2 kj40 t556 t555 (bt561.2 != t538)) else (laws_FnExactNearWords.j2 kj40 t556 t555 true))))) else (some false))) = some r := H
          have A58 := Aside0.mk A580
          clear A580
          by_cases c59 : t557 < 0
          ·
           rw [if_pos c59] at H
           have c59b0 : decide (t557 < 0) = true := decide_eq_true c59
           clear c59
           obtain rfl := Option.some.inj H
           obtain ⟨Ao60, co60, eo60⟩ := Kd.R_slice HO_11.out
           subst eo60
           go_wp2_with (first | ((with_reducible refine gate_callee (f := 13) rfl ?_); refine goesL_ (some 75) rfl rfl Tryz.func13 (by kernel_rfl) rfl #[.slice Ao60 t543.length co60, .int .i64 1] rfl (by (try simp only [List.map_toArray, List.map_cons, List.map_nil]); first | done | rfl | (simp only [List.length_drop, List.length_take]; rfl)) ?_; (with_reducible refine (laws_markStringS.calls kj40 (fun k_ => some k_ = (.slice Ao60 t543.length co60 : Value).ownBlock) (.slice Ao60 t543.length co60) t543 1 t555 t556 w _ ?side1 ?side2 A57.out).mono ?_); (case side1 => repeat (first | (with_reducible first | exact HB.out | apply below_alloc | apply pw_below_drewN | apply below_drew1 | refine below_set ?_ GE530.out | refine below_set ?_ GE542.out) | exact HB.out)); (case side2 => exact Kd.R_tight rfl HO_11.out); rintro e w61 ⟨rfl, hy0, hb, hkp⟩; refine ⟨_, rfl, ?_⟩; have n0_ := Aside0.mk (Kd.R_mono (ok' := fun k_ => some k_ ≠ (.slice Ao60 t543.length co60 : Value).ownBlock) (Kd.R_keptB (HO_8.out) hkp (fun k_ hk_ hs_ => (hk_) hs_)) (fun k_ hk_ => hk_.1)); have n1_ := Aside0.mk (Kd.R_reok rfl hy0 (fun k_ e_ => HO_11.out.1 k_ e_)); have n2_ := Aside0.mk (Kd.R_mono (ok' := fun k_ => True) (Kd.R_keptB ((Kd.R_apart' HO_543000.out (Kd.R_typed HO_11.out) (by decide))) hkp (fun k_ hk_ hs_ => (hk_.2) hs_)) (fun k_ hk_ => trivial)); have n3_ := Aside0.mk (blk_kept (by (with_reducible repeat (first | refine blk_drewN ?_ _ | refine blk_drew ?_ | refine blk_alloc ?_ _)); exact BK530.out) hkp (fun hs_ => (fun e_ => (Kd.R_ne HO_11.out BK530.out (by decide)) e_) hs_)); have n4_ := Aside0.mk (blk_kept (by (with_reducible repeat (first | refine blk_drewN ?_ _ | refine blk_drew ?_ | refine blk_alloc ?_ _)); exact BK542.out) hkp (fun hs_ => (fun e_ => (Kd.R_ne HO_11.out BK542.out (by decide)) e_) hs_)); have n5_ := Aside0.mk (hb); clear HO_8; clear HO_11; clear HO_543000; clear BK530; clear BK542; clear HB; have HO_8 := n0_; have HO_11 := n1_; have HO_543000 := n2_; have BK530 := n3_; have BK542 := n4_; have HB := n5_; clear n0_ n1_ n2_ n3_ n4_ n5_; (try clear hb); (try clear hkp); (try clear hy0)) | ((with_reducible refine gate_callee (f := 14) rfl ?_); refine goesL_ (some 78) rfl rfl Tryz.func14 (by kernel_rfl) rfl #[.slice Ao60 t556.length co60, .int .i64 1] rfl (by (try simp only [List.map_toArray, List.map_cons, List.map_nil]); first | done | (rw [show t556.length = t543.length from (Kd.R_reads' HO_11.out).1.symm] <;> rfl) | rfl | (simp only [List.length_drop, List.length_take]; rfl)) ?_; (with_reducible refine (laws_heldStringS.calls kj40 _ _ t556 1 t557 _ ?side1 ?side2 A58.out).mono ?_); (case side1 => repeat (first | exact (Kd.R_reads' HO_11.out).2.2 | (with_reducible refine Kd.C_alloc ?_ _) | (with_reducible refine Kd.C_drewN ?_ _) | (with_reducible refine Kd.C_drew ?_))); (case side2 => rw [show t556.length = t543.length from (Kd.R_reads' HO_11.out).1.symm]; exact (Kd.R_reads' HO_11.out).2.1); rintro e w62 ⟨rfl, hb⟩; refine ⟨_, rfl, ?_⟩; have n0_ := Aside0.mk (Kd.R_below (by (with_reducible repeat (first | apply Kd.R_alloc | apply Kd.R_drewN | apply Kd.R_drew)); exact HO_8.out) hb); have n1_ := Aside0.mk (Kd.R_below (by (with_reducible repeat (first | apply Kd.R_alloc | apply Kd.R_drewN | apply Kd.R_drew)); exact HO_11.out) hb); have n2_ := Aside0.mk (Kd.R_below (by (with_reducible repeat (first | apply Kd.R_alloc | apply Kd.R_drewN | apply Kd.R_drew)); exact HO_543000.out) hb); have n3_ := Aside0.mk (blk_below (g := gb530) (o := .cells #[.slice A0_0 l0_0.length c0_0] 24 (0, 0)) (by (with_reducible repeat (first | refine blk_drewN ?_ _ | refine blk_drew ?_ | refine blk_alloc ?_ _)); exact BK530.out) hb); have n4_ := Aside0.mk (blk_below (g := gb542) (o := .cells #[.slice Ao26 t553.length co26] 31 (0, 0)) (by (with_reducible repeat (first | refine blk_drewN ?_ _ | refine blk_drew ?_ | refine blk_alloc ?_ _)); exact BK542.out) hb); have n5_ := Aside0.mk (below_step (by repeat (first | (with_reducible first | exact HB.out | apply below_alloc | apply pw_below_drewN | apply below_drew1 | refine below_set ?_ GE530.out | refine below_set ?_ GE542.out) | exact HB.out)) hb); clear HO_8; clear HO_11; clear HO_543000; clear BK530; clear BK542; clear HB; have HO_8 := n0_; have HO_11 := n1_; have HO_543000 := n2_; have BK530 := n3_; have BK542 := n4_; have HB := n5_; clear n0_ n1_ n2_ n3_ n4_ n5_; (try clear hb); (try clear hb2); (try clear hk); (try clear hi)))
           go_ret
           exact ⟨by first | rfl | (simp [errW_none, errW_some] <;> rfl) | (simp [*, errW_none, errW_some] <;> rfl), by repeat (first | (with_reducible first | exact HB.out | apply below_alloc | apply pw_below_drewN | apply below_drew1 | refine below_set ?_ GE530.out | refine below_set ?_ GE542.out) | exact HB.out)⟩
          ·
           rw [if_neg c59] at H
           have c59b0 : decide (t557 < 0) = false := decide_eq_false c59
           clear c59
           by_cases c63 : t557 = t555
           ·
            rw [if_pos c63] at H
            have c63b0 : (t557 == t555) = true := beq_iff_eq.mpr c63
            have c63b1 : (t557 != t555) = false := bne_eq_false_iff_eq.mpr c63
            clear c63
            replace H := Option.bind_eq_some_iff.mp H
            obtain ⟨t558, A640, H⟩ := H
            replace H : ((impl_NearWords.f kj40 t558 a1 a2).bind fun bt561 => ((laws_eqStringS.f kj40 bt561.1 t535).bind fun t565 => (if t565 = true then (laws_FnExactNearWords.j2 kj40 t556 t555 (bt561.2 != t538)) else (laws_FnExactNearWords.j2 kj40 t556 t555 true)))) = some r := H
            have A64 := Aside0.mk A640
            clear A640
            replace H := Option.bind_eq_some_iff.mp H
            obtain ⟨⟨t561, t564⟩, A650, H⟩ := H
            replace H : ((laws_eqStringS.f kj40 t561 t535).bind fun t565 => (if t565 = true then (laws_FnExactNearWords.j2 kj40 t556 t555 (t564 != t538)) else (laws_FnExactNearWords.j2 kj40 t556 t555 true))) = some r := H
            have A65 := Aside0.mk A650
            clear A650
            have HC66 := Aside0.mk H
            clear H
            obtain ⟨Ao67, co67, eo67⟩ := Kd.R_slice HO_11.out
            subst eo67
            go_upto_region 27 with (first | ((with_reducible refine gate_callee (f := 13) rfl ?_); refine goesL_ (some 75) rfl rfl Tryz.func13 (by kernel_rfl) rfl #[.slice Ao67 t543.length co67, .int .i64 1] rfl (by (try simp only [List.map_toArray, List.map_cons, List.map_nil]); first | done | rfl | (simp only [List.length_drop, List.length_take]; rfl)) ?_; (with_reducible refine (laws_markStringS.calls kj40 (fun k_ => some k_ = (.slice Ao67 t543.length co67 : Value).ownBlock) (.slice Ao67 t543.length co67) t543 1 t555 t556 w _ ?side1 ?side2 A57.out).mono ?_); (case side1 => repeat (first | (with_reducible first | exact HB.out | apply below_alloc | apply pw_below_drewN | apply below_drew1 | refine below_set ?_ GE530.out | refine below_set ?_ GE542.out) | exact HB.out)); (case side2 => exact Kd.R_tight rfl HO_11.out); rintro e w68 ⟨rfl, hy0, hb, hkp⟩; refine ⟨_, rfl, ?_⟩; have n0_ := Aside0.mk (Kd.R_mono (ok' := fun k_ => some k_ ≠ (.slice Ao67 t543.length co67 : Value).ownBlock) (Kd.R_keptB (HO_8.out) hkp (fun k_ hk_ hs_ => (hk_) hs_)) (fun k_ hk_ => hk_.1)); have n1_ := Aside0.mk (Kd.R_reok rfl hy0 (fun k_ e_ => HO_11.out.1 k_ e_)); have n2_ := Aside0.mk (Kd.R_mono (ok' := fun k_ => True) (Kd.R_keptB ((Kd.R_apart' HO_543000.out (Kd.R_typed HO_11.out) (by decide))) hkp (fun k_ hk_ hs_ => (hk_.2) hs_)) (fun k_ hk_ => trivial)); have n3_ := Aside0.mk (blk_kept (by (with_reducible repeat (first | refine blk_drewN ?_ _ | refine blk_drew ?_ | refine blk_alloc ?_ _)); exact BK530.out) hkp (fun hs_ => (fun e_ => (Kd.R_ne HO_11.out BK530.out (by decide)) e_) hs_)); have n4_ := Aside0.mk (blk_kept (by (with_reducible repeat (first | refine blk_drewN ?_ _ | refine blk_drew ?_ | refine blk_alloc ?_ _)); exact BK542.out) hkp (fun hs_ => (fun e_ => (Kd.R_ne HO_11.out BK542.out (by decide)) e_) hs_)); have n5_ := Aside0.mk (hb); clear HO_8; clear HO_11; clear HO_543000; clear BK530; clear BK542; clear HB; have HO_8 := n0_; have HO_11 := n1_; have HO_543000 := n2_; have BK530 := n3_; have BK542 := n4_; have HB := n5_; clear n0_ n1_ n2_ n3_ n4_ n5_; (try clear hb); (try clear hkp); (try clear hy0)) | ((with_reducible refine gate_callee (f := 14) rfl ?_); refine goesL_ (some 78) rfl rfl Tryz.func14 (by kernel_rfl) rfl #[.slice Ao67 t556.length co67, .int .i64 1] rfl (by (try simp only [List.map_toArray, List.map_cons, List.map_nil]); first | done | (rw [show t556.length = t543.length from (Kd.R_reads' HO_11.out).1.symm] <;> rfl) | rfl | (simp only [List.length_drop, List.length_take]; rfl)) ?_; (with_reducible refine (laws_heldStringS.calls kj40 _ _ t556 1 t557 _ ?side1 ?side2 A58.out).mono ?_); (case side1 => repeat (first | exact (Kd.R_reads' HO_11.out).2.2 | (with_reducible refine Kd.C_alloc ?_ _) | (with_reducible refine Kd.C_drewN ?_ _) | (with_reducible refine Kd.C_drew ?_))); (case side2 => rw [show t556.length = t543.length from (Kd.R_reads' HO_11.out).1.symm]; exact (Kd.R_reads' HO_11.out).2.1); rintro e w69 ⟨rfl, hb⟩; refine ⟨_, rfl, ?_⟩; have n0_ := Aside0.mk (Kd.R_below (by (with_reducible repeat (first | apply Kd.R_alloc | apply Kd.R_drewN | apply Kd.R_drew)); exact HO_8.out) hb); have n1_ := Aside0.mk (Kd.R_below (by (with_reducible repeat (first | apply Kd.R_alloc | apply Kd.R_drewN | apply Kd.R_drew)); exact HO_11.out) hb); have n2_ := Aside0.mk (Kd.R_below (by (with_reducible repeat (first | apply Kd.R_alloc | apply Kd.R_drewN | apply Kd.R_drew)); exact HO_543000.out) hb); have n3_ := Aside0.mk (blk_below (g := gb530) (o := .cells #[.slice A0_0 l0_0.length c0_0] 24 (0, 0)) (by (with_reducible repeat (first | refine blk_drewN ?_ _ | refine blk_drew ?_ | refine blk_alloc ?_ _)); exact BK530.out) hb); have n4_ := Aside0.mk (blk_below (g := gb542) (o := .cells #[.slice Ao26 t553.length co26] 31 (0, 0)) (by (with_reducible repeat (first | refine blk_drewN ?_ _ | refine blk_drew ?_ | refine blk_alloc ?_ _)); exact BK542.out) hb); have n5_ := Aside0.mk (below_step (by repeat (first | (with_reducible first | exact HB.out | apply below_alloc | apply pw_below_drewN | apply below_drew1 | refine below_set ?_ GE530.out | refine below_set ?_ GE542.out) | exact HB.out)) hb); clear HO_8; clear HO_11; clear HO_543000; clear BK530; clear BK542; clear HB; have HO_8 := n0_; have HO_11 := n1_; have HO_543000 := n2_; have BK530 := n3_; have BK542 := n4_; have HB := n5_; clear n0_ n1_ n2_ n3_ n4_ n5_; (try clear hb); (try clear hb2); (try clear hk); (try clear hi); have hnb70 := NB530_542.out; have hnc70 := NB542_530.out; have hcz71_0 : w69.cell? ⟨gb530, 0, none⟩ = some (.slice A0_0 l0_0.length c0_0) := (blk_cell BK530.out 0).trans rfl; have hfz71_0 := blk_frozen BK530.out 0) | ((with_reducible refine gate_callee (f := 8) rfl ?_); refine goesL_ (some 86) rfl rfl Tryz.func8 (by kernel_rfl) rfl #[.agg #[.slice A0_0 l0_0.length c0_0]] rfl (by (try simp only [List.map_toArray, List.map_cons, List.map_nil]); first | done | rfl | (simp only [List.length_drop, List.length_take]; rfl)) ?_; (with_reducible refine (laws_toTrie.calls kj40 _ _ l0_0 t558 _ ?side1 ?side2 A64.out).mono ?_); (case side1 => repeat (first | exact (Kd.C_below HR0_0.out HB.out) | (with_reducible refine Kd.C_alloc ?_ _) | (with_reducible refine Kd.C_drewN ?_ _) | (with_reducible refine Kd.C_drew ?_))); (case side2 => exact HC0_0.out); rintro e w72 ⟨v559, rfl, ho0, hb⟩; refine ⟨_, rfl, ?_⟩; have n0_ := Aside0.mk (Kd.R_below (by (with_reducible repeat (first | apply Kd.R_alloc | apply Kd.R_drewN | apply Kd.R_drew)); exact HO_8.out) hb); have n1_ := Aside0.mk (Kd.R_below (by (with_reducible repeat (first | apply Kd.R_alloc | apply Kd.R_drewN | apply Kd.R_drew)); exact HO_11.out) hb); have n2_ := Aside0.mk (Kd.R_elder' (by (with_reducible repeat (first | apply Kd.R_alloc | apply Kd.R_drewN | apply Kd.R_drew)); exact HO_543000.out) (Kd.R_base ho0) hb); have n3_ := Aside0.mk (Kd.R_lower (Kd.R_new' ho0 (Kd.R_lt (by (with_reducible repeat (first | apply Kd.R_alloc | apply Kd.R_drewN | apply Kd.R_drew)); exact HO_543000.out))) (below_size (by repeat (first | (with_reducible first | exact HB.out | apply below_alloc | apply pw_below_drewN | apply below_drew1 | refine below_set ?_ GE530.out | refine below_set ?_ GE542.out) | exact HB.out)))); have n4_ := Aside0.mk (blk_below (g := gb530) (o := .cells #[.slice A0_0 l0_0.length c0_0] 24 (0, 0)) (by (with_reducible repeat (first | refine blk_drewN ?_ _ | refine blk_drew ?_ | refine blk_alloc ?_ _)); exact BK530.out) hb); have n5_ := Aside0.mk (blk_below (g := gb542) (o := .cells #[.slice Ao26 t553.length co26] 31 (0, 0)) (by (with_reducible repeat (first | refine blk_drewN ?_ _ | refine blk_drew ?_ | refine blk_alloc ?_ _)); exact BK542.out) hb); have n6_ := Aside0.mk (below_step (by repeat (first | (with_reducible first | exact HB.out | apply below_alloc | apply pw_below_drewN | apply below_drew1 | refine below_set ?_ GE530.out | refine below_set ?_ GE542.out) | exact HB.out)) hb); clear HO_8; clear HO_11; clear HO_543000; clear BK530; clear BK542; clear HB; have HO_8 := n0_; have HO_11 := n1_; have HO_543000 := n2_; have HO560 := n3_; have BK530 := n4_; have BK542 := n5_; have HB := n6_; clear n0_ n1_ n2_ n3_ n4_ n5_ n6_; (try clear hb); (try clear hb2); (try clear hk); (try clear hi); (try clear ho0); obtain ⟨Ao73, co73, eo73⟩ := Kd.R_slice HO560.out; subst eo73) | ((with_reducible refine gate_callee (f := 19) rfl ?_); refine goesL_ (some 89) rfl rfl Tryz.func19 (by kernel_rfl) rfl #[.agg #[.slice Ao73 t558.length co73], .string a1, .int .i64 a2] rfl (by (try simp only [List.map_toArray, List.map_cons, List.map_nil]); first | done | rfl | (simp only [List.length_drop, List.length_take]; rfl)) ?_; (with_reducible refine (impl_NearWords.calls kj40 _ _ t558 a1 a2 t561 t564 _ ?side1 ?side2 A65.out).mono ?_); (case side1 => repeat (first | exact (Kd.R_reads' HO560.out).2.2 | (with_reducible refine Kd.C_alloc ?_ _) | (with_reducible refine Kd.C_drewN ?_ _) | (with_reducible refine Kd.C_drew ?_))); (case side2 => exact (Kd.R_reads' HO560.out).2.1); rintro e w74 ⟨v562, rfl, ho0, hb⟩; refine ⟨_, rfl, ?_⟩; have n0_ := Aside0.mk (Kd.R_elder' (by (with_reducible repeat (first | apply Kd.R_alloc | apply Kd.R_drewN | apply Kd.R_drew)); exact HO_8.out) (Kd.R_base ho0) hb); have n1_ := Aside0.mk (Kd.R_elder' (by (with_reducible repeat (first | apply Kd.R_alloc | apply Kd.R_drewN | apply Kd.R_drew)); exact HO_11.out) (Kd.R_base ho0) hb); have n2_ := Aside0.mk (Kd.R_below (by (with_reducible repeat (first | apply Kd.R_alloc | apply Kd.R_drewN | apply Kd.R_drew)); exact HO_543000.out) hb); have n3_ := Aside0.mk (Kd.R_below (by (with_reducible repeat (first | apply Kd.R_alloc | apply Kd.R_drewN | apply Kd.R_drew)); exact HO560.out) hb); have n4_ := Aside0.mk (Kd.R_lower (Kd.R_new' (Kd.R_new' ho0 (Kd.R_lt (by (with_reducible repeat (first | apply Kd.R_alloc | apply Kd.R_drewN | apply Kd.R_drew)); exact HO_8.out))) (Kd.R_lt (by (with_reducible repeat (first | apply Kd.R_alloc | apply Kd.R_drewN | apply Kd.R_drew)); exact HO_11.out))) (below_size (by repeat (first | (with_reducible first | exact HB.out | apply below_alloc | apply pw_below_drewN | apply below_drew1 | refine below_set ?_ GE530.out | refine below_set ?_ GE542.out) | exact HB.out)))); have n5_ := Aside0.mk (blk_below (g := gb530) (o := .cells #[.slice A0_0 l0_0.length c0_0] 24 (0, 0)) (by (with_reducible repeat (first | refine blk_drewN ?_ _ | refine blk_drew ?_ | refine blk_alloc ?_ _)); exact BK530.out) hb); have n6_ := Aside0.mk (blk_below (g := gb542) (o := .cells #[.slice Ao26 t553.length co26] 31 (0, 0)) (by (with_reducible repeat (first | refine blk_drewN ?_ _ | refine blk_drew ?_ | refine blk_alloc ?_ _)); exact BK542.out) hb); have n7_ := Aside0.mk (below_step (by repeat (first | (with_reducible first | exact HB.out | apply below_alloc | apply pw_below_drewN | apply below_drew1 | refine below_set ?_ GE530.out | refine below_set ?_ GE542.out) | exact HB.out)) hb); clear HO_8; clear HO_11; clear HO_543000; clear HO560; clear BK530; clear BK542; clear HB; have HO_8 := n0_; have HO_11 := n1_; have HO_543000 := n2_; have HO560 := n3_; have HO563 := n4_; have BK530 := n5_; have BK542 := n6_; have HB := n7_; clear n0_ n1_ n2_ n3_ n4_ n5_ n6_ n7_; (try clear hb); (try clear hb2); (try clear hk); (try clear hi); (try clear ho0)))
            (try simp only [Act.put, List.setIfInBounds_toArray, List.set_cons_zero, List.set_cons_succ])
            go_cut [100] (fun v100 wc => ∃ (kq : Nat) (x100_65 : Bool), v100 = .bool x100_65 ∧ Aside0 (laws_FnExactNearWords.j2 kq t556 t555 x100_65 = some r) ∧ Aside0 (kq ≤ kj40) ∧ Aside0 (Kd.R Kd.string 9 wc w.heap.size (fun _ => True) (.slice Ao67 t543.length co67) t556) ∧ Aside0 (Kd.R k64 64 wc w.heap.size (fun _ => True) (.slice Ao26 t553.length co26) t553) ∧ Aside0 (wc.heap[gb530]? = some (.cells #[(.slice A0_0 l0_0.length c0_0)] 24 (0, 0))) ∧ Aside0 (wc.heap[gb542]? = some (.cells #[(.slice Ao26 t553.length co26)] 31 (0, 0))) ∧ Aside0 (Below w.heap.size w wc))
            case first =>
             have H := HC66.out
             clear HC66
             replace H := Option.bind_eq_some_iff.mp H
             obtain ⟨t565, A750, H⟩ := H
             replace H : (if t565 = true then (laws_FnExactNearWords.j2 kj40 t556 t555 (t564 != t538)) else (laws_FnExactNearWords.j2 kj40 t556 t555 true)) = some r := H
             have A75 := Aside0.mk A750
             clear A750
             by_cases c76 : t565 = true
             ·
              subst c76
              replace H : (laws_FnExactNearWords.j2 kj40 t556 t555 (t564 != t538)) = some r := by rw [if_pos rfl] at H; exact H
              have H' := Aside0.mk H
              clear H
              obtain ⟨Ao77, co77, eo77⟩ := Kd.R_slice HO563.out
              subst eo77
              obtain ⟨Ao78, co78, eo78⟩ := Kd.R_slice HO_8.out
              subst eo78
              go_wp2_with (first | ((with_reducible refine gate_callee (f := 10) rfl ?_); refine goesL_ (some 94) rfl rfl Tryz.func10 (by kernel_rfl) rfl #[.slice Ao77 t561.length co77, .slice Ao78 t535.length co78] rfl (by (try simp only [List.map_toArray, List.map_cons, List.map_nil]); first | done | rfl | (simp only [List.length_drop, List.length_take]; rfl)) ?_; (with_reducible refine (laws_eqStringS.calls kj40 _ _ t561 _ _ t535 true _ ?side1 ?side2 ?side3 ?side4 A75.out).mono ?_); (case side1 => repeat (first | exact (Kd.R_reads' HO563.out).2.2 | (with_reducible refine Kd.C_alloc ?_ _) | (with_reducible refine Kd.C_drewN ?_ _) | (with_reducible refine Kd.C_drew ?_))); (case side2 => exact (Kd.R_reads' HO563.out).2.1); (case side3 => repeat (first | exact (Kd.R_reads' HO_8.out).2.2 | (with_reducible refine Kd.C_alloc ?_ _) | (with_reducible refine Kd.C_drewN ?_ _) | (with_reducible refine Kd.C_drew ?_))); (case side4 => exact (Kd.R_reads' HO_8.out).2.1); rintro e w' ⟨rfl, ⟨nd, rfl⟩⟩; refine ⟨_, rfl, ?_⟩))
              go_meet
              case rel => exact ⟨_, ((t564 != t538)), (by first | rfl | (simp; done) | (simp [*]; done)), H', ⟨by have := HJ14.out; have := HJ40.out; first | omega | exact Nat.le_refl _⟩, ⟨by (try simp only [hl543000_40]); (with_reducible repeat (first | apply Kd.R_alloc | apply Kd.R_drewN | apply Kd.R_drew)); exact Kd.R_mono HO_11.out (fun _ hk => trivial)⟩, ⟨by (try simp only [hl543000_40]); (with_reducible repeat (first | apply Kd.R_alloc | apply Kd.R_drewN | apply Kd.R_drew)); exact Kd.R_mono HO_543000.out (fun _ hk => trivial)⟩, ⟨by (try simp only [hl543000_40]); (with_reducible repeat (first | refine blk_drewN ?_ _ | refine blk_drew ?_ | refine blk_alloc ?_ _)); exact BK530.out⟩, ⟨by (try simp only [hl543000_40]); (with_reducible repeat (first | refine blk_drewN ?_ _ | refine blk_drew ?_ | refine blk_alloc ?_ _)); exact BK542.out⟩, ⟨by repeat (first | (with_reducible first | exact HB.out | apply below_alloc | apply pw_below_drewN | apply below_drew1 | refine below_set ?_ GE530.out | refine below_set ?_ GE542.out) | exact HB.out)⟩⟩
             ·
              replace c76 := Bool.eq_false_iff.mpr c76
              subst c76
              replace H : (laws_FnExactNearWords.j2 kj40 t556 t555 true) = some r := by rw [if_neg (show ¬ (false = true) by decide)] at H; exact H
              have H' := Aside0.mk H
              clear H
              obtain ⟨Ao79, co79, eo79⟩ := Kd.R_slice HO563.out
              subst eo79
              obtain ⟨Ao80, co80, eo80⟩ := Kd.R_slice HO_8.out
              subst eo80
              go_wp2_with (first | ((with_reducible refine gate_callee (f := 10) rfl ?_); refine goesL_ (some 94) rfl rfl Tryz.func10 (by kernel_rfl) rfl #[.slice Ao79 t561.length co79, .slice Ao80 t535.length co80] rfl (by (try simp only [List.map_toArray, List.map_cons, List.map_nil]); first | done | rfl | (simp only [List.length_drop, List.length_take]; rfl)) ?_; (with_reducible refine (laws_eqStringS.calls kj40 _ _ t561 _ _ t535 false _ ?side1 ?side2 ?side3 ?side4 A75.out).mono ?_); (case side1 => repeat (first | exact (Kd.R_reads' HO563.out).2.2 | (with_reducible refine Kd.C_alloc ?_ _) | (with_reducible refine Kd.C_drewN ?_ _) | (with_reducible refine Kd.C_drew ?_))); (case side2 => exact (Kd.R_reads' HO563.out).2.1); (case side3 => repeat (first | exact (Kd.R_reads' HO_8.out).2.2 | (with_reducible refine Kd.C_alloc ?_ _) | (with_reducible refine Kd.C_drewN ?_ _) | (with_reducible refine Kd.C_drew ?_))); (case side4 => exact (Kd.R_reads' HO_8.out).2.1); rintro e w' ⟨rfl, ⟨nd, rfl⟩⟩; refine ⟨_, rfl, ?_⟩))
              go_meet
              case rel => exact ⟨_, (true), (by first | rfl | (simp; done) | (simp [*]; done)), H', ⟨by have := HJ14.out; have := HJ40.out; first | omega | exact Nat.le_refl _⟩, ⟨by (try simp only [hl543000_40]); (with_reducible repeat (first | apply Kd.R_alloc | apply Kd.R_drewN | apply Kd.R_drew)); exact Kd.R_mono HO_11.out (fun _ hk => trivial)⟩, ⟨by (try simp only [hl543000_40]); (with_reducible repeat (first | apply Kd.R_alloc | apply Kd.R_drewN | apply Kd.R_drew)); exact Kd.R_mono HO_543000.out (fun _ hk => trivial)⟩, ⟨by (try simp only [hl543000_40]); (with_reducible repeat (first | refine blk_drewN ?_ _ | refine blk_drew ?_ | refine blk_alloc ?_ _)); exact BK530.out⟩, ⟨by (try simp only [hl543000_40]); (with_reducible repeat (first | refine blk_drewN ?_ _ | refine blk_drew ?_ | refine blk_alloc ?_ _)); exact BK542.out⟩, ⟨by repeat (first | (with_reducible first | exact HB.out | apply below_alloc | apply pw_below_drewN | apply below_drew1 | refine below_set ?_ GE530.out | refine below_set ?_ GE542.out) | exact HB.out)⟩⟩
            case rest =>
             clear HC66
             try clear c1
             try clear c2
             try clear p2
             try clear c3
             try clear c4
             try clear c4b0
             try clear c4b1
             try clear c5
             try clear c6
             try clear c7
             try clear c7b0
             try clear c8
             try clear c10
             try clear c11
             try clear c12
             try clear c13
             try clear c14
             try clear c18
             try clear c19
             try clear c27
             try clear c31
             try clear c36
             try clear c39
             try clear c46
             try clear c49
             try clear c49b0
             try clear c51
             try clear c56
             try clear c59
             try clear c59b0
             try clear c63
             try clear c63b0
             try clear c63b1
             try clear c70
             try clear c76
             try clear hcz17_0
             try clear hcz19_0
             try clear hcz23_0
             try clear hcz28_0
             try clear hcz47_0
             try clear hcz71_0
             try clear hcz9_0
             try clear hfz17_0
             try clear hfz19_0
             try clear hfz23_0
             try clear hfz28_0
             try clear hfz47_0
             try clear hfz71_0
             try clear hfz9_0
             try clear p2
             obtain ⟨kq, x100_65, rfl, HA, HJ65, HO_11, HO_543000, BK530, BK542, HB⟩ := hcut
             have hl11_65 := (Kd.R_reads' HO_11.out).1
             rw [hl11_65] at HO_11
             (try simp only [hl11_65])
             (try simp only [hl11_65] at BK530)
             (try simp only [hl11_65] at BK542)
             (try simp only [hl11_65] at HO_543000)
             cases kq with
             | zero => exact absurd HA.out (by simp [laws_FnExactNearWords.j2])
             | succ kj65 =>
              have H := HA.out
              clear HA
              simp only [laws_FnExactNearWords.j2] at H
              by_cases c81 : x100_65 = true
              ·
               subst c81
               replace H : (some false) = some r := by rw [if_pos rfl] at H; exact H
               obtain rfl := Option.some.inj H
               go_wp2
               go_ret
               exact ⟨by first | rfl | (simp [errW_none, errW_some] <;> rfl) | (simp [*, errW_none, errW_some] <;> rfl), by repeat (first | (with_reducible first | exact HB.out | apply below_alloc | apply pw_below_drewN | apply below_drew1 | refine below_set ?_ GE530.out | refine below_set ?_ GE542.out) | exact HB.out)⟩
              ·
               replace c81 := Bool.eq_false_iff.mpr c81
               subst c81
               replace H : ((laws_heldStringS.f kj65 t556 1).bind fun t566 => (if t566 < 0 then (some false) else (if t566 = t555 then (some true) else (some false)))) = some r := by rw [if_neg (show ¬ (false = true) by decide)] at H; exact H
               replace H := Option.bind_eq_some_iff.mp H
               obtain ⟨t566, A820, H⟩ := H
               replace H : (if t566 < 0 then (some false) else (if t566 = t555 then (some true) else (some false))) = some r := H
               have A82 := Aside0.mk A820
               clear A820
               by_cases c83 : t566 < 0
               ·
                rw [if_pos c83] at H
                have c83b0 : decide (t566 < 0) = true := decide_eq_true c83
                clear c83
                obtain rfl := Option.some.inj H
                go_wp2_with (first | ((with_reducible refine gate_callee (f := 14) rfl ?_); refine goesL_ (some 103) rfl rfl Tryz.func14 (by kernel_rfl) rfl #[.slice Ao67 t556.length co67, .int .i64 1] rfl (by (try simp only [List.map_toArray, List.map_cons, List.map_nil]); first | done | rfl | (simp only [List.length_drop, List.length_take]; rfl)) ?_; (with_reducible refine (laws_heldStringS.calls kj65 _ _ t556 1 t566 _ ?side1 ?side2 A82.out).mono ?_); (case side1 => repeat (first | exact (Kd.R_reads' HO_11.out).2.2 | (with_reducible refine Kd.C_alloc ?_ _) | (with_reducible refine Kd.C_drewN ?_ _) | (with_reducible refine Kd.C_drew ?_))); (case side2 => exact (Kd.R_reads' HO_11.out).2.1); rintro e w84 ⟨rfl, hb⟩; refine ⟨_, rfl, ?_⟩; have n0_ := Aside0.mk (Kd.R_below (by (with_reducible repeat (first | apply Kd.R_alloc | apply Kd.R_drewN | apply Kd.R_drew)); exact HO_11.out) hb); have n1_ := Aside0.mk (Kd.R_below (by (with_reducible repeat (first | apply Kd.R_alloc | apply Kd.R_drewN | apply Kd.R_drew)); exact HO_543000.out) hb); have n2_ := Aside0.mk (blk_below (g := gb530) (o := .cells #[.slice A0_0 l0_0.length c0_0] 24 (0, 0)) (by (with_reducible repeat (first | refine blk_drewN ?_ _ | refine blk_drew ?_ | refine blk_alloc ?_ _)); exact BK530.out) hb); have n3_ := Aside0.mk (blk_below (g := gb542) (o := .cells #[.slice Ao26 t553.length co26] 31 (0, 0)) (by (with_reducible repeat (first | refine blk_drewN ?_ _ | refine blk_drew ?_ | refine blk_alloc ?_ _)); exact BK542.out) hb); have n4_ := Aside0.mk (below_step (by repeat (first | (with_reducible first | exact HB.out | apply below_alloc | apply pw_below_drewN | apply below_drew1 | refine below_set ?_ GE530.out | refine below_set ?_ GE542.out) | exact HB.out)) hb); clear HO_11; clear HO_543000; clear BK530; clear BK542; clear HB; have HO_11 := n0_; have HO_543000 := n1_; have BK530 := n2_; have BK542 := n3_; have HB := n4_; clear n0_ n1_ n2_ n3_ n4_; (try clear hb); (try clear hb2); (try clear hk); (try clear hi)))
                go_ret
                exact ⟨by first | rfl | (simp [errW_none, errW_some] <;> rfl) | (simp [*, errW_none, errW_some] <;> rfl), by repeat (first | (with_reducible first | exact HB.out | apply below_alloc | apply pw_below_drewN | apply below_drew1 | refine below_set ?_ GE530.out | refine below_set ?_ GE542.out) | exact HB.out)⟩
               ·
                rw [if_neg c83] at H
                have c83b0 : decide (t566 < 0) = false := decide_eq_false c83
                clear c83
                by_cases c85 : t566 = t555
                ·
                 rw [if_pos c85] at H
                 have c85b0 : (t566 == t555) = true := beq_iff_eq.mpr c85
                 have c85b1 : (t566 != t555) = false := bne_eq_false_iff_eq.mpr c85
                 clear c85
                 obtain rfl := Option.some.inj H
                 go_wp2_with (first | ((with_reducible refine gate_callee (f := 14) rfl ?_); refine goesL_ (some 103) rfl rfl Tryz.func14 (by kernel_rfl) rfl #[.slice Ao67 t556.length co67, .int .i64 1] rfl (by (try simp only [List.map_toArray, List.map_cons, List.map_nil]); first | done | rfl | (simp only [List.length_drop, List.length_take]; rfl)) ?_; (with_reducible refine (laws_heldStringS.calls kj65 _ _ t556 1 t566 _ ?side1 ?side2 A82.out).mono ?_); (case side1 => repeat (first | exact (Kd.R_reads' HO_11.out).2.2 | (with_reducible refine Kd.C_alloc ?_ _) | (with_reducible refine Kd.C_drewN ?_ _) | (with_reducible refine Kd.C_drew ?_))); (case side2 => exact (Kd.R_reads' HO_11.out).2.1); rintro e w86 ⟨rfl, hb⟩; refine ⟨_, rfl, ?_⟩; have n0_ := Aside0.mk (Kd.R_below (by (with_reducible repeat (first | apply Kd.R_alloc | apply Kd.R_drewN | apply Kd.R_drew)); exact HO_11.out) hb); have n1_ := Aside0.mk (Kd.R_below (by (with_reducible repeat (first | apply Kd.R_alloc | apply Kd.R_drewN | apply Kd.R_drew)); exact HO_543000.out) hb); have n2_ := Aside0.mk (blk_below (g := gb530) (o := .cells #[.slice A0_0 l0_0.length c0_0] 24 (0, 0)) (by (with_reducible repeat (first | refine blk_drewN ?_ _ | refine blk_drew ?_ | refine blk_alloc ?_ _)); exact BK530.out) hb); have n3_ := Aside0.mk (blk_below (g := gb542) (o := .cells #[.slice Ao26 t553.length co26] 31 (0, 0)) (by (with_reducible repeat (first | refine blk_drewN ?_ _ | refine blk_drew ?_ | refine blk_alloc ?_ _)); exact BK542.out) hb); have n4_ := Aside0.mk (below_step (by repeat (first | (with_reducible first | exact HB.out | apply below_alloc | apply pw_below_drewN | apply below_drew1 | refine below_set ?_ GE530.out | refine below_set ?_ GE542.out) | exact HB.out)) hb); clear HO_11; clear HO_543000; clear BK530; clear BK542; clear HB; have HO_11 := n0_; have HO_543000 := n1_; have BK530 := n2_; have BK542 := n3_; have HB := n4_; clear n0_ n1_ n2_ n3_ n4_; (try clear hb); (try clear hb2); (try clear hk); (try clear hi)))
                 go_ret
                 exact ⟨by first | rfl | (simp [errW_none, errW_some] <;> rfl) | (simp [*, errW_none, errW_some] <;> rfl), by repeat (first | (with_reducible first | exact HB.out | apply below_alloc | apply pw_below_drewN | apply below_drew1 | refine below_set ?_ GE530.out | refine below_set ?_ GE542.out) | exact HB.out)⟩
                ·
                 rw [if_neg c85] at H
                 have c85b0 : (t566 == t555) = false := beq_eq_false_iff_ne.mpr c85
                 have c85b1 : (t566 != t555) = true := bne_iff_ne.mpr c85
                 obtain rfl := Option.some.inj H
                 go_wp2_with (first | ((with_reducible refine gate_callee (f := 14) rfl ?_); refine goesL_ (some 103) rfl rfl Tryz.func14 (by kernel_rfl) rfl #[.slice Ao67 t556.length co67, .int .i64 1] rfl (by (try simp only [List.map_toArray, List.map_cons, List.map_nil]); first | done | rfl | (simp only [List.length_drop, List.length_take]; rfl)) ?_; (with_reducible refine (laws_heldStringS.calls kj65 _ _ t556 1 t566 _ ?side1 ?side2 A82.out).mono ?_); (case side1 => repeat (first | exact (Kd.R_reads' HO_11.out).2.2 | (with_reducible refine Kd.C_alloc ?_ _) | (with_reducible refine Kd.C_drewN ?_ _) | (with_reducible refine Kd.C_drew ?_))); (case side2 => exact (Kd.R_reads' HO_11.out).2.1); rintro e w87 ⟨rfl, hb⟩; refine ⟨_, rfl, ?_⟩; have n0_ := Aside0.mk (Kd.R_below (by (with_reducible repeat (first | apply Kd.R_alloc | apply Kd.R_drewN | apply Kd.R_drew)); exact HO_11.out) hb); have n1_ := Aside0.mk (Kd.R_below (by (with_reducible repeat (first | apply Kd.R_alloc | apply Kd.R_drewN | apply Kd.R_drew)); exact HO_543000.out) hb); have n2_ := Aside0.mk (blk_below (g := gb530) (o := .cells #[.slice A0_0 l0_0.length c0_0] 24 (0, 0)) (by (with_reducible repeat (first | refine blk_drewN ?_ _ | refine blk_drew ?_ | refine blk_alloc ?_ _)); exact BK530.out) hb); have n3_ := Aside0.mk (blk_below (g := gb542) (o := .cells #[.slice Ao26 t553.length co26] 31 (0, 0)) (by (with_reducible repeat (first | refine blk_drewN ?_ _ | refine blk_drew ?_ | refine blk_alloc ?_ _)); exact BK542.out) hb); have n4_ := Aside0.mk (below_step (by repeat (first | (with_reducible first | exact HB.out | apply below_alloc | apply pw_below_drewN | apply below_drew1 | refine below_set ?_ GE530.out | refine below_set ?_ GE542.out) | exact HB.out)) hb); clear HO_11; clear HO_543000; clear BK530; clear BK542; clear HB; have HO_11 := n0_; have HO_543000 := n1_; have BK530 := n2_; have BK542 := n3_; have HB := n4_; clear n0_ n1_ n2_ n3_ n4_; (try clear hb); (try clear hb2); (try clear hk); (try clear hi)))
                 go_ret
                 exact ⟨by first | rfl | (simp [errW_none, errW_some] <;> rfl) | (simp [*, errW_none, errW_some] <;> rfl), by repeat (first | (with_reducible first | exact HB.out | apply below_alloc | apply pw_below_drewN | apply below_drew1 | refine below_set ?_ GE530.out | refine below_set ?_ GE542.out) | exact HB.out)⟩
           ·
            rw [if_neg c63] at H
            have c63b0 : (t557 == t555) = false := beq_eq_false_iff_ne.mpr c63
            have c63b1 : (t557 != t555) = true := bne_iff_ne.mpr c63
            obtain rfl := Option.some.inj H
            obtain ⟨Ao88, co88, eo88⟩ := Kd.R_slice HO_11.out
            subst eo88
            go_wp2_with (first | ((with_reducible refine gate_callee (f := 13) rfl ?_); refine goesL_ (some 75) rfl rfl Tryz.func13 (by kernel_rfl) rfl #[.slice Ao88 t543.length co88, .int .i64 1] rfl (by (try simp only [List.map_toArray, List.map_cons, List.map_nil]); first | done | rfl | (simp only [List.length_drop, List.length_take]; rfl)) ?_; (with_reducible refine (laws_markStringS.calls kj40 (fun k_ => some k_ = (.slice Ao88 t543.length co88 : Value).ownBlock) (.slice Ao88 t543.length co88) t543 1 t555 t556 w _ ?side1 ?side2 A57.out).mono ?_); (case side1 => repeat (first | (with_reducible first | exact HB.out | apply below_alloc | apply pw_below_drewN | apply below_drew1 | refine below_set ?_ GE530.out | refine below_set ?_ GE542.out) | exact HB.out)); (case side2 => exact Kd.R_tight rfl HO_11.out); rintro e w89 ⟨rfl, hy0, hb, hkp⟩; refine ⟨_, rfl, ?_⟩; have n0_ := Aside0.mk (Kd.R_mono (ok' := fun k_ => some k_ ≠ (.slice Ao88 t543.length co88 : Value).ownBlock) (Kd.R_keptB (HO_8.out) hkp (fun k_ hk_ hs_ => (hk_) hs_)) (fun k_ hk_ => hk_.1)); have n1_ := Aside0.mk (Kd.R_reok rfl hy0 (fun k_ e_ => HO_11.out.1 k_ e_)); have n2_ := Aside0.mk (Kd.R_mono (ok' := fun k_ => True) (Kd.R_keptB ((Kd.R_apart' HO_543000.out (Kd.R_typed HO_11.out) (by decide))) hkp (fun k_ hk_ hs_ => (hk_.2) hs_)) (fun k_ hk_ => trivial)); have n3_ := Aside0.mk (blk_kept (by (with_reducible repeat (first | refine blk_drewN ?_ _ | refine blk_drew ?_ | refine blk_alloc ?_ _)); exact BK530.out) hkp (fun hs_ => (fun e_ => (Kd.R_ne HO_11.out BK530.out (by decide)) e_) hs_)); have n4_ := Aside0.mk (blk_kept (by (with_reducible repeat (first | refine blk_drewN ?_ _ | refine blk_drew ?_ | refine blk_alloc ?_ _)); exact BK542.out) hkp (fun hs_ => (fun e_ => (Kd.R_ne HO_11.out BK542.out (by decide)) e_) hs_)); have n5_ := Aside0.mk (hb); clear HO_8; clear HO_11; clear HO_543000; clear BK530; clear BK542; clear HB; have HO_8 := n0_; have HO_11 := n1_; have HO_543000 := n2_; have BK530 := n3_; have BK542 := n4_; have HB := n5_; clear n0_ n1_ n2_ n3_ n4_ n5_; (try clear hb); (try clear hkp); (try clear hy0)) | ((with_reducible refine gate_callee (f := 14) rfl ?_); refine goesL_ (some 78) rfl rfl Tryz.func14 (by kernel_rfl) rfl #[.slice Ao88 t556.length co88, .int .i64 1] rfl (by (try simp only [List.map_toArray, List.map_cons, List.map_nil]); first | done | (rw [show t556.length = t543.length from (Kd.R_reads' HO_11.out).1.symm] <;> rfl) | rfl | (simp only [List.length_drop, List.length_take]; rfl)) ?_; (with_reducible refine (laws_heldStringS.calls kj40 _ _ t556 1 t557 _ ?side1 ?side2 A58.out).mono ?_); (case side1 => repeat (first | exact (Kd.R_reads' HO_11.out).2.2 | (with_reducible refine Kd.C_alloc ?_ _) | (with_reducible refine Kd.C_drewN ?_ _) | (with_reducible refine Kd.C_drew ?_))); (case side2 => rw [show t556.length = t543.length from (Kd.R_reads' HO_11.out).1.symm]; exact (Kd.R_reads' HO_11.out).2.1); rintro e w90 ⟨rfl, hb⟩; refine ⟨_, rfl, ?_⟩; have n0_ := Aside0.mk (Kd.R_below (by (with_reducible repeat (first | apply Kd.R_alloc | apply Kd.R_drewN | apply Kd.R_drew)); exact HO_8.out) hb); have n1_ := Aside0.mk (Kd.R_below (by (with_reducible repeat (first | apply Kd.R_alloc | apply Kd.R_drewN | apply Kd.R_drew)); exact HO_11.out) hb); have n2_ := Aside0.mk (Kd.R_below (by (with_reducible repeat (first | apply Kd.R_alloc | apply Kd.R_drewN | apply Kd.R_drew)); exact HO_543000.out) hb); have n3_ := Aside0.mk (blk_below (g := gb530) (o := .cells #[.slice A0_0 l0_0.length c0_0] 24 (0, 0)) (by (with_reducible repeat (first | refine blk_drewN ?_ _ | refine blk_drew ?_ | refine blk_alloc ?_ _)); exact BK530.out) hb); have n4_ := Aside0.mk (blk_below (g := gb542) (o := .cells #[.slice Ao26 t553.length co26] 31 (0, 0)) (by (with_reducible repeat (first | refine blk_drewN ?_ _ | refine blk_drew ?_ | refine blk_alloc ?_ _)); exact BK542.out) hb); have n5_ := Aside0.mk (below_step (by repeat (first | (with_reducible first | exact HB.out | apply below_alloc | apply pw_below_drewN | apply below_drew1 | refine below_set ?_ GE530.out | refine below_set ?_ GE542.out) | exact HB.out)) hb); clear HO_8; clear HO_11; clear HO_543000; clear BK530; clear BK542; clear HB; have HO_8 := n0_; have HO_11 := n1_; have HO_543000 := n2_; have BK530 := n3_; have BK542 := n4_; have HB := n5_; clear n0_ n1_ n2_ n3_ n4_ n5_; (try clear hb); (try clear hb2); (try clear hk); (try clear hi)))
            go_ret
            exact ⟨by first | rfl | (simp [errW_none, errW_some] <;> rfl) | (simp [*, errW_none, errW_some] <;> rfl), by repeat (first | (with_reducible first | exact HB.out | apply below_alloc | apply pw_below_drewN | apply below_drew1 | refine below_set ?_ GE530.out | refine below_set ?_ GE542.out) | exact HB.out)⟩
      ·
       replace c39 := Bool.eq_false_iff.mpr c39
       subst c39
       replace H : (some false) = some r := by rw [if_neg (show ¬ (false = true) by decide)] at H; exact H
       obtain rfl := Option.some.inj H
       try go_wp2
       have n0_ := Aside0.mk (Kd.R_drew HO_8.out)
       have n1_ := Aside0.mk (Kd.R_drew HO_11.out)
       have n2_ := Aside0.mk (Kd.R_drew HO_543000.out)
       have n3_ := Aside0.mk (blk_drew BK530.out)
       have n4_ := Aside0.mk (blk_drew BK542.out)
       have n5_ := Aside0.mk (below_drew1 HB.out)
       clear HO_8
       clear HO_11
       clear HO_543000
       clear BK530
       clear BK542
       clear HB
       have HO_8 := n0_
       have HO_11 := n1_
       have HO_543000 := n2_
       have BK530 := n3_
       have BK542 := n4_
       have HB := n5_
       clear n0_ n1_ n2_ n3_ n4_ n5_
       refine start_ (n := 5) (S := fun w' => w'.cell? ⟨gb542, 0, none⟩ = some (.slice Ao26 t539.length co26) ∧ w'.cell? ⟨gb530, 0, none⟩ = some (.slice A0_0 l0_0.length c0_0)) (ds := []) #[false, false, false, false, false] (by kernel_rfl) rfl rfl ⟨(blk_cell BK542.out 0).trans rfl, (blk_cell BK530.out 0).trans rfl⟩ (fun hHeld => ?_)
       generalize wc.drew = w91 at HO_8 HO_11 HO_543000 BK530 BK542 HB hHeld ⊢
       refine take_ (i := 0) (N := some 52) (v := ?_) (a' := ?_) #[true, false, false, false, false] rfl rfl (by kernel_rfl) (fun _ _ _ h => h) (Or.inl ⟨by rfl, ?_⟩) hHeld ?_ ?_
       rotate_left
       ·
        rintro w' ⟨s0, s1⟩
        go_simp
        with_reducible rfl
       rotate_left
       ·
        simp only [Act.put, List.setIfInBounds_toArray, List.set_cons_zero, List.set_cons_succ, i64_w, i32_w]
        rfl
       refine take_ (i := 1) (N := some 53) (v := ?_) (a' := ?_) #[true, true, false, false, false] rfl rfl (by kernel_rfl) (fun _ _ _ h => h) (Or.inl ⟨by rfl, ?_⟩) hHeld ?_ ?_
       rotate_left
       ·
        rintro w' ⟨s0, s1⟩
        go_simp
        with_reducible rfl
       rotate_left
       ·
        simp only [Act.put, List.setIfInBounds_toArray, List.set_cons_zero, List.set_cons_succ, i64_w, i32_w]
        rfl
       refine one_ (i := 2) (N := some 54) #[true, true, true, false, false] rfl rfl (by kernel_rfl) (by decide) (fun K hK => ?_)
       refine goes_ Tryz.func8 (by kernel_rfl) rfl #[.agg #[.slice A0_0 l0_0.length c0_0]] (by rfl) rfl rfl (by (try simp only [List.map_toArray, List.map_cons, List.map_nil]); first | done | rfl | (simp only [List.length_drop, List.length_take]; rfl)) ?_
       with_reducible refine (laws_toTrie.calls kj14 _ _ l0_0 t548 _ ?side1 ?side2 A37.out).mono ?_
       (case side1 => repeat (first | exact (Kd.C_below HR0_0.out HB.out) | (with_reducible refine Kd.C_alloc ?_ _) | (with_reducible refine Kd.C_drewN ?_ _) | (with_reducible refine Kd.C_drew ?_)))
       (case side2 => exact HC0_0.out)
       rintro e w92 ⟨v549, rfl, ho0, hb⟩
       refine ⟨_, rfl, ?_⟩
       have n0_ := Aside0.mk (Kd.R_below (by (with_reducible repeat (first | apply Kd.R_alloc | apply Kd.R_drewN | apply Kd.R_drew)); exact HO_8.out) hb)
       have n1_ := Aside0.mk (Kd.R_below (by (with_reducible repeat (first | apply Kd.R_alloc | apply Kd.R_drewN | apply Kd.R_drew)); exact HO_11.out) hb)
       have n2_ := Aside0.mk (Kd.R_elder' (by (with_reducible repeat (first | apply Kd.R_alloc | apply Kd.R_drewN | apply Kd.R_drew)); exact HO_543000.out) (Kd.R_base ho0) hb)
       have n3_ := Aside0.mk (Kd.R_lower (Kd.R_new' ho0 (Kd.R_lt (by (with_reducible repeat (first | apply Kd.R_alloc | apply Kd.R_drewN | apply Kd.R_drew)); exact HO_543000.out))) (below_size (by repeat (first | (with_reducible first | exact HB.out | apply below_alloc | apply pw_below_drewN | apply below_drew1 | refine below_set ?_ GE530.out | refine below_set ?_ GE542.out) | exact HB.out))))
       have n4_ := Aside0.mk (blk_below (g := gb530) (o := .cells #[.slice A0_0 l0_0.length c0_0] 24 (0, 0)) (by (with_reducible repeat (first | refine blk_drewN ?_ _ | refine blk_drew ?_ | refine blk_alloc ?_ _)); exact BK530.out) hb)
       have n5_ := Aside0.mk (blk_below (g := gb542) (o := .cells #[.slice Ao26 t539.length co26] 31 (0, 0)) (by (with_reducible repeat (first | refine blk_drewN ?_ _ | refine blk_drew ?_ | refine blk_alloc ?_ _)); exact BK542.out) hb)
       have n6_ := Aside0.mk (below_step (by repeat (first | (with_reducible first | exact HB.out | apply below_alloc | apply pw_below_drewN | apply below_drew1 | refine below_set ?_ GE530.out | refine below_set ?_ GE542.out) | exact HB.out)) hb)
       clear HO_8
       clear HO_11
       clear HO_543000
       clear BK530
       clear BK542
       clear HB
       have HO_8 := n0_
       have HO_11 := n1_
       have HO_543000 := n2_
       have HO550 := n3_
       have BK530 := n4_
       have BK542 := n5_
       have HB := n6_
       clear n0_ n1_ n2_ n3_ n4_ n5_ n6_
       (try clear hb)
       (try clear hb2)
       (try clear hk)
       (try clear hi)
       (try clear ho0)
       obtain ⟨Ao93, co93, eo93⟩ := Kd.R_slice HO550.out
       (first | subst eo93 | (injection eo93 with f1_ f2_ f3_; have f4_ := f1_.symm; have f5_ := f3_.symm; clear f1_ f2_ f3_; subst f4_; subst f5_))
       refine hK.out _ _ ⟨(blk_cell BK542.out 0).trans rfl, (blk_cell BK530.out 0).trans rfl⟩ (fun hHeld => ?_)
       clear hK K
       refine norm_ (a' := ?_) ?_ ?_
       rotate_left
       ·
        show Act.put _ (some 54) _ = _
        simp only [Act.put, List.setIfInBounds_toArray, List.set_cons_zero, List.set_cons_succ, i64_w, i32_w]
        rfl
       refine one_ (i := 3) (N := some 55) #[true, true, true, true, false] rfl rfl (by kernel_rfl) (by decide) (fun K hK => ?_)
       refine goes_ Tryz.func11 (by kernel_rfl) rfl #[.agg #[.slice Ao26 t539.length co26], .agg #[.slice Ao93 t548.length co93]] (by rfl) rfl rfl (by (try simp only [List.map_toArray, List.map_cons, List.map_nil]); first | done | rfl | (simp only [List.length_drop, List.length_take]; rfl)) ?_
       with_reducible refine (laws_eqTrie.calls kj14 _ _ t539 _ _ t548 false _ ?side1 ?side2 ?side3 ?side4 A38.out).mono ?_
       (case side1 => repeat (first | exact (Kd.R_reads' HO_543000.out).2.2 | (with_reducible refine Kd.C_alloc ?_ _) | (with_reducible refine Kd.C_drewN ?_ _) | (with_reducible refine Kd.C_drew ?_)))
       (case side2 => exact (Kd.R_reads' HO_543000.out).2.1)
       (case side3 => repeat (first | exact (Kd.R_reads' HO550.out).2.2 | (with_reducible refine Kd.C_alloc ?_ _) | (with_reducible refine Kd.C_drewN ?_ _) | (with_reducible refine Kd.C_drew ?_)))
       (case side4 => exact (Kd.R_reads' HO550.out).2.1)
       rintro e w94 ⟨rfl, hb⟩
       refine ⟨_, rfl, ?_⟩
       have n0_ := Aside0.mk (Kd.R_below (by (with_reducible repeat (first | apply Kd.R_alloc | apply Kd.R_drewN | apply Kd.R_drew)); exact HO_8.out) hb)
       have n1_ := Aside0.mk (Kd.R_below (by (with_reducible repeat (first | apply Kd.R_alloc | apply Kd.R_drewN | apply Kd.R_drew)); exact HO_11.out) hb)
       have n2_ := Aside0.mk (Kd.R_below (by (with_reducible repeat (first | apply Kd.R_alloc | apply Kd.R_drewN | apply Kd.R_drew)); exact HO_543000.out) hb)
       have n3_ := Aside0.mk (Kd.R_below (by (with_reducible repeat (first | apply Kd.R_alloc | apply Kd.R_drewN | apply Kd.R_drew)); exact HO550.out) hb)
       have n4_ := Aside0.mk (blk_below (g := gb530) (o := .cells #[.slice A0_0 l0_0.length c0_0] 24 (0, 0)) (by (with_reducible repeat (first | refine blk_drewN ?_ _ | refine blk_drew ?_ | refine blk_alloc ?_ _)); exact BK530.out) hb)
       have n5_ := Aside0.mk (blk_below (g := gb542) (o := .cells #[.slice Ao26 t539.length co26] 31 (0, 0)) (by (with_reducible repeat (first | refine blk_drewN ?_ _ | refine blk_drew ?_ | refine blk_alloc ?_ _)); exact BK542.out) hb)
       have n6_ := Aside0.mk (below_step (by repeat (first | (with_reducible first | exact HB.out | apply below_alloc | apply pw_below_drewN | apply below_drew1 | refine below_set ?_ GE530.out | refine below_set ?_ GE542.out) | exact HB.out)) hb)
       clear HO_8
       clear HO_11
       clear HO_543000
       clear HO550
       clear BK530
       clear BK542
       clear HB
       have HO_8 := n0_
       have HO_11 := n1_
       have HO_543000 := n2_
       have HO550 := n3_
       have BK530 := n4_
       have BK542 := n5_
       have HB := n6_
       clear n0_ n1_ n2_ n3_ n4_ n5_ n6_
       (try clear hb)
       (try clear hb2)
       (try clear hk)
       (try clear hi)
       refine hK.out _ _ ⟨(blk_cell BK542.out 0).trans rfl, (blk_cell BK530.out 0).trans rfl⟩ (fun hHeld => ?_)
       clear hK K
       refine norm_ (a' := ?_) ?_ ?_
       rotate_left
       ·
        show Act.put _ (some 55) _ = _
        simp only [Act.put, List.setIfInBounds_toArray, List.set_cons_zero, List.set_cons_succ, i64_w, i32_w]
        rfl
       refine pure_ (i := 4) (N := some 56) (v := ?_) (a' := ?_) #[true, true, true, true, true] rfl rfl (by kernel_rfl) (fun _ _ _ h => h) (Or.inl ⟨by rfl, ?_⟩) ?_ ?_
       rotate_left
       ·
        intro w'
        go_simp
        with_reducible rfl
       rotate_left
       ·
        simp only [Act.put, List.setIfInBounds_toArray, List.set_cons_zero, List.set_cons_succ, i64_w, i32_w]
        rfl
       refine done_ (by kernel_rfl) ?_
       try go_wp2
       go_ret
       exact ⟨by first | rfl | (simp [errW_none, errW_some] <;> rfl) | (simp [*, errW_none, errW_some] <;> rfl), by repeat (first | (with_reducible first | exact HB.out | apply below_alloc | apply pw_below_drewN | apply below_drew1 | refine below_set ?_ GE530.out | refine below_set ?_ GE542.out) | exact HB.out)⟩
def laws_FnExactNearWords.Pure : Prop := ∀ (l0_0 : List S67) (a1 : ByteArray) (a2 : Int), l0_0.length ≤ 9223372036854775807 → a1.size ≤ 140737488351232 → (Lit.int .i64 a2).wf = true → ∃ k, laws_FnExactNearWords.f k l0_0 a1 a2 = some true
theorem laws_FnExactNearWords.walk (P : laws_FnExactNearWords.Pure) (w : World) (A0 : Option Addr) (c0 : Nat) (l0_0 : List S67) (hr0 : Kd.C k67 w A0 l0_0.length l0_0) (hc0 : l0_0.length ≤ c0) (a1 : ByteArray) (w1 : a1.size ≤ 140737488351232) (a2 : Int) (w2 : (Lit.int .i64 a2).wf = true) :
  Calls Tryz.prog 5 #[.agg #[.slice A0 l0_0.length c0], .string a1, .int .i64 a2] w fun e w' => e = .returned (.bool true) ∧ Below w.heap.size w w' := by
 obtain ⟨k, h⟩ := P l0_0 a1 a2 hr0.2.1 w1 w2
 refine (laws_FnExactNearWords.calls k _ _ l0_0 a1 a2 true w hr0 hc0 h).mono ?_
 rintro e w' ⟨rfl, hd⟩
 exact ⟨rfl, hd⟩
end Go.Proofs.YtpgobnhklnglhaaGreatDoor.P
namespace Go.Proofs.YtpgobnhklnglhaaGreatDoor.M
def nxR (i : Nat) (c : UInt8) (b : Txt) (last : List Nat) : Nat → List Nat
 | 0 => [i + 1]
 | j + 1 => nxR i c b last j ++ [min (last.getD j 0 + if c = b.getD j 0 then 0 else 1) (min (last.getD (j + 1) 0 + 1) ((nxR i c b last j).getD j 0 + 1))]
theorem nxR_length (i : Nat) (c : UInt8) (b : Txt) (last : List Nat) : ∀ j, (nxR i c b last j).length = j + 1
 | 0 => rfl
 | j + 1 => by rw [nxR, List.length_append, nxR_length i c b last j]; rfl
def rowR (a b : Txt) : Nat → List Nat
 | 0 => List.range (b.length + 1)
 | i + 1 => nxR i (a.getD i 0) b (rowR a b i) b.length
theorem rowR_length (a b : Txt) : ∀ i, (rowR a b i).length = b.length + 1
 | 0 => by rw [rowR, List.length_range]
 | i + 1 => by rw [rowR, nxR_length]
theorem nxR_bd (i : Nat) (c : UInt8) (b : Txt) (last : List Nat) (M : Nat) (hi : i ≤ M) (hl : ∀ j, last.getD j 0 ≤ M) : ∀ j m, (nxR i c b last j).getD m 0 ≤ M + 1
 | 0, m => by
  cases m with
  | zero => show i + 1 ≤ _; omega
  | succ m => show 0 ≤ _; omega
 | j + 1, m => by
  have ih := nxR_bd i c b last M hi hl j
  rw [nxR]
  by_cases h : m < j + 1
  ·
   rw [List.getD_eq_getElem?_getD, List.getElem?_append_left (by rw [nxR_length]; exact h), ← List.getD_eq_getElem?_getD]; exact ih m
  ·
   rw [List.getD_eq_getElem?_getD, List.getElem?_append_right (by rw [nxR_length]; omega), nxR_length]
   by_cases h2 : m = j + 1
   ·
    subst h2
    rw [Nat.sub_self]
    have h3 := hl j
    show min _ _ ≤ _
    refine Nat.le_trans (Nat.min_le_left _ _) ?_
    split <;> omega
   ·
    rw [List.getElem?_eq_none (by simp; omega)]
    show 0 ≤ _; omega
theorem rowR_bd (a b : Txt) : ∀ i m, (rowR a b i).getD m 0 ≤ b.length + i
 | 0, m => by
  rw [rowR, List.getD_eq_getElem?_getD]
  by_cases h : m < b.length + 1
  ·
   rw [List.getElem?_range h]; show m ≤ _; omega
  ·
   rw [List.getElem?_eq_none (by rw [List.length_range]; omega)]; show 0 ≤ _; omega
 | i + 1, m => by
  have := nxR_bd i (a.getD i 0) b (rowR a b i) (b.length + i) (by omega) (rowR_bd a b i) b.length m
  rw [rowR]; omega
def distL (a b : Txt) : Nat := (rowR a b a.length).getD b.length 0
theorem distL_bd (a b : Txt) : distL a b ≤ b.length + a.length := rowR_bd a b a.length b.length
end Go.Proofs.YtpgobnhklnglhaaGreatDoor.M
namespace Go.Proofs.YtpgobnhklnglhaaGreatDoor.L
open Go.RowKit Go.Proofs.YtpgobnhklnglhaaGreatDoor.P Go.Proofs.YtpgobnhklnglhaaGreatDoor.M Go.Proofs.YtpgobnhklnglhaaGreatDoorW.PrintWords Go.Proofs.YtpgobnhklnglhaaGreatDoorW.PrintLast Go.Proofs.YtpgobnhklnglhaaGreatDoorW.PrintMore
def nI (l : List Nat) : List Int := l.map fun x : Nat => (x : Int)
theorem nI_length (l : List Nat) : (nI l).length = l.length := by simp [nI]
theorem nI_append (l m : List Nat) : nI (l ++ m) = nI l ++ nI m := by simp [nI]
theorem rd_nI (l : List Nat) (n : Nat) : rd (nI l) (n : Int) = ((l.getD n 0 : Nat) : Int) := by
 rw [rd_nat]
 unfold nI
 rw [List.getD_eq_getElem?_getD, List.getD_eq_getElem?_getD, List.getElem?_map]
 cases l[n]? <;> rfl
theorem bt_same (a b : Txt) (n m : Nat) (h : n < a.length) (h2 : m < b.length) : bt (B a) (n : Int) = bt (B b) (m : Int) ↔ a.getD n 0 = b.getD m 0 := by
 rw [bt_B a n h, bt_B b m h2]
 constructor
 ·
  intro e
  exact UInt8.toNat_inj.1 (by omega)
 ·
  intro e
  rw [e]
theorem wrapI {n : Nat} (h : n ≤ 9223372036854775807) : wrap64 (n : Int) = (n : Int) := wrap64_id (by omega) (by omega)
theorem wrapS {n : Nat} (h : n ≤ 1000000) : wrap64 ((n : Int) + 1) = ((n + 1 : Nat) : Int) := wrap64_succ n (by omega)
theorem wrapP {n : Nat} (h : n ≤ 1000000) : wrap64 (((n + 1 : Nat) : Int) - 1) = (n : Int) := by rw [wrap64_id (by omega) (by omega)]; omega
theorem mn_nat (x y : Nat) : mn (x : Int) (y : Int) = ((min x y : Nat) : Int) := by unfold mn; omega
theorem imp_cols (a b : Txt) (hb : b.length ≤ 1000) (i : Nat) (hi : i < a.length) (hi2 : i ≤ 1000) (last : List Nat) (hl : last.length = b.length + 1) (hbd : ∀ j, last.getD j 0 ≤ 10000) (r : Int) (n24 : Int)
  (hr : Ev (fun k => impl_distance.l1 k (B a) (B b) (nI (nxR i (a.getD i 0) b last b.length)) n24 ((i + 1 : Nat) : Int)) r) : ∀ (d j : Nat), j + d = b.length → Ev (fun k => impl_distance.l2 k (B a) (B b) (nI last) (i : Int) (nI (nxR i (a.getD i 0) b last j)) n24 (i : Int) (b.length : Int) (j : Int)) r := by
 intro d
 induction d with
 | zero =>
  intro j q
  obtain rfl : j = b.length := by omega
  refine Ev.step (fun k => impl_distance.l2.eq_2 ..) (Ev.ifF (by omega) ?_)
  rw [wrapS (by omega)]
  exact hr
 | succ d ih =>
  intro j q
  have hx := nxR_length i (a.getD i 0) b last j
  have hB := nxR_bd i (a.getD i 0) b last 10000 (by omega) hbd j j
  have h1 := hbd j
  have h2 := hbd (j + 1)
  have hn := ih (j + 1) (by omega)
  rw [nxR, nI_append] at hn
  refine Ev.step (fun k => impl_distance.l2.eq_2 ..) (Ev.ifT (by omega) (Ev.ifT (by omega) (Ev.ifT (by rw [nI_length]; omega) (Ev.ifT (by omega) (Ev.ifT (by rw [size_B]; omega) (Ev.ifT (by rw [size_B]; omega) ?_))))))
  rw [wrapS (n := j) (by omega)]
  by_cases e : a.getD i 0 = b.getD j 0
  ·
   refine Ev.ifT ((bt_same a b i j hi (by omega)).2 e) (Ev.ifT (by omega) (Ev.ifT (by rw [nI_length]; omega) (Ev.ifT (by rw [nI_length]; omega) (Ev.ifT (by rw [nI_length]; omega) ?_))))
   rw [rd_nI, rd_nI, rd_nI, wrapS (by omega), wrapS (by omega), mn_nat, mn_nat]
   rw [if_pos e, Nat.add_zero] at hn
   rw [Nat.min_assoc]
   exact hn
  ·
   refine Ev.ifF (fun q => e ((bt_same a b i j hi (by omega)).1 q)) (Ev.ifT (by omega) (Ev.ifT (by rw [nI_length]; omega) (Ev.ifT (by rw [nI_length]; omega) (Ev.ifT (by rw [nI_length]; omega) ?_))))
   rw [rd_nI, rd_nI, rd_nI, wrapS (by omega), wrapS (by omega), wrapS (by omega), mn_nat, mn_nat]
   rw [if_neg e] at hn
   rw [Nat.min_assoc]
   exact hn
theorem imp_rows (a b : Txt) (ha : a.length ≤ 1000) (hb : b.length ≤ 1000) : ∀ (d i : Nat), i + d = a.length → Ev (fun k => impl_distance.l1 k (B a) (B b) (nI (rowR a b i)) (a.length : Int) (i : Int)) (distL a b : Int) := by
 intro d
 induction d with
 | zero =>
  intro i q
  obtain rfl : i = a.length := by omega
  refine Ev.step (fun k => impl_distance.l1.eq_2 ..) (Ev.ifF (by omega) (Ev.ifT (by omega) (Ev.ifT (by rw [size_B, nI_length, rowR_length]; omega) ?_)))
  rw [size_B, rd_nI]
  exact Ev.now _
 | succ d ih =>
  intro i q
  have hn := ih (i + 1) (by omega)
  rw [rowR] at hn
  refine Ev.step (fun k => impl_distance.l1.eq_2 ..) (Ev.ifT (by omega) ?_)
  rw [size_B, wrapS (by omega)]
  exact imp_cols a b hb i (by omega) (by omega) (rowR a b i) (rowR_length a b i) (fun j => Nat.le_trans (rowR_bd a b i j) (by omega)) _ _ hn b.length 0 (by omega)
theorem range_I (n : Nat) : nI (List.range (n + 1)) = nI (List.range n) ++ [(n : Int)] := by rw [List.range_succ, nI_append]; rfl
theorem distance_ev' (a b : Txt) (ha : a.length ≤ 1000) (hb : b.length ≤ 1000) : Ev (fun k => impl_distance.f k (B a) (B b)) (distL a b : Int) := by
 have h0 := imp_rows a b ha hb a.length 0 (by omega)
 have loop : ∀ (d j : Nat), j + d = b.length + 1 → Ev (fun k => impl_distance.l0 k (B a) (B b) (nI (List.range j)) ((b.length + 1 : Nat) : Int) (j : Int)) (distL a b : Int) := by
  intro d
  induction d with
  | zero =>
   intro j q
   obtain rfl : j = b.length + 1 := by omega
   refine Ev.step (fun k => impl_distance.l0.eq_2 ..) (Ev.ifF (by omega) ?_)
   rw [size_B]
   exact h0
  | succ d ih =>
   intro j q
   have := ih (j + 1) (by omega)
   rw [range_I] at this
   refine Ev.step (fun k => impl_distance.l0.eq_2 ..) (Ev.ifT (by omega) (Ev.ifT (by rw [nI_length, List.length_range]; omega) ?_))
   rw [wrapS (by omega)]
   exact this
 unfold impl_distance.f
 rw [size_B, wrapS (by omega)]
 exact loop (b.length + 1) 0 (by omega)
theorem distance_ev (a b : Txt) (ha : a.length ≤ 12) (hb : b.length ≤ 12) : Ev (fun k => impl_distance.f k (B a) (B b)) (distL a b : Int) := distance_ev' a b (by omega) (by omega)
theorem least_nat (x y : Nat) : spec_l1Least.f (x : Int) (y : Int) = some ((min x y : Nat) : Int) := by
 unfold spec_l1Least.f
 by_cases h : (x : Int) < (y : Int)
 ·
  rw [if_pos h]; congr 1; omega
 ·
  rw [if_neg h]; congr 1; omega
theorem min3 (p q s : Nat) : min p (1 + min q s) = min p (min (q + 1) (s + 1)) := by omega
theorem spe_cols (a b : Txt) (hb : b.length ≤ 1000) (i : Nat) (hi : i < a.length) (hi2 : i ≤ 1000) (last : List Nat) (hl : last.length = b.length + 1) (hbd : ∀ j, last.getD j 0 ≤ 10000) (r : Int)
  (hr : Ev (fun k => spec_l6Distance.l1 k (B a) (B b) (nI (nxR i (a.getD i 0) b last b.length)) ((i + 1 + 1 : Nat) : Int)) r) : ∀ (d j : Nat), j + d = b.length → Ev (fun k => spec_l6Distance.l2 k (B a) (B b) (nI last) ((i + 1 : Nat) : Int) (nI (nxR i (a.getD i 0) b last j)) ((j + 1 : Nat) : Int)) r := by
 intro d
 induction d with
 | zero =>
  intro j q
  obtain rfl : j = b.length := by omega
  refine Ev.step (fun k => spec_l6Distance.l2.eq_2 ..) (Ev.ifF (by rw [size_B]; omega) ?_)
  rw [wrapS (by omega)]
  exact hr
 | succ d ih =>
  intro j q
  have hx := nxR_length i (a.getD i 0) b last j
  have hB := nxR_bd i (a.getD i 0) b last 10000 (by omega) hbd j j
  have h1 := hbd j
  have h2 := hbd (j + 1)
  have hn := ih (j + 1) (by omega)
  rw [nxR, nI_append] at hn
  refine Ev.step (fun k => spec_l6Distance.l2.eq_2 ..) (Ev.ifT (by rw [size_B]; omega) ?_)
  rw [wrapP (n := j) (by omega), wrapP (n := i) (by omega)]
  refine Ev.ifT (by omega) (Ev.ifT (by rw [nI_length]; omega) (Ev.ifT (by omega) (Ev.ifT (by rw [size_B]; omega) (Ev.ifT (by rw [size_B]; omega) ?_))))
  by_cases e : a.getD i 0 = b.getD j 0
  ·
   refine Ev.ifT ((bt_same a b i j hi (by omega)).2 e) (Ev.ifT (by omega) (Ev.ifT (by rw [nI_length]; omega) (Ev.ifT (by rw [nI_length]; omega) ?_)))
   rw [rd_nI, rd_nI, rd_nI, least_nat]
   refine Ev.some_bind ?_
   rw [← Int.natCast_one, ← Int.natCast_add, wrapI (by omega), least_nat]
   refine Ev.some_bind (Ev.ifT (by rw [nI_length]; omega) ?_)
   rw [if_pos e, Nat.add_zero] at hn
   rw [Int.natCast_one, wrapS (by omega), min3]
   exact hn
  ·
   refine Ev.ifF (fun q => e ((bt_same a b i j hi (by omega)).1 q)) (Ev.ifT (by omega) (Ev.ifT (by rw [nI_length]; omega) (Ev.ifT (by rw [nI_length]; omega) ?_)))
   rw [rd_nI, rd_nI, rd_nI, least_nat]
   refine Ev.some_bind ?_
   rw [wrapS (n := last.getD j 0) (by omega), ← Int.natCast_one, ← Int.natCast_add, wrapI (by omega), least_nat]
   refine Ev.some_bind (Ev.ifT (by rw [nI_length]; omega) ?_)
   rw [if_neg e] at hn
   rw [Int.natCast_one, wrapS (by omega), min3]
   exact hn
theorem spe_rows (a b : Txt) (ha : a.length ≤ 1000) (hb : b.length ≤ 1000) : ∀ (d i : Nat), i + d = a.length → Ev (fun k => spec_l6Distance.l1 k (B a) (B b) (nI (rowR a b i)) ((i + 1 : Nat) : Int)) (distL a b : Int) := by
 intro d
 induction d with
 | zero =>
  intro i q
  obtain rfl : i = a.length := by omega
  refine Ev.step (fun k => spec_l6Distance.l1.eq_2 ..) (Ev.ifF (by rw [size_B]; omega) (Ev.ifT (by omega) (Ev.ifT (by rw [size_B, nI_length, rowR_length]; omega) ?_)))
  rw [size_B, rd_nI]
  exact Ev.now _
 | succ d ih =>
  intro i q
  have hn := ih (i + 1) (by omega)
  rw [rowR] at hn
  refine Ev.step (fun k => spec_l6Distance.l1.eq_2 ..) (Ev.ifT (by rw [size_B]; omega) ?_)
  exact spe_cols a b hb i (by omega) (by omega) (rowR a b i) (rowR_length a b i) (fun j => Nat.le_trans (rowR_bd a b i j) (by omega)) _ hn b.length 0 (by omega)
theorem l6Distance_ev (a b : Txt) (ha : a.length ≤ 12) (hb : b.length ≤ 12) : Ev (fun k => spec_l6Distance.f k (B a) (B b)) (distL a b : Int) := by
 have h0 := spe_rows a b (by omega) (by omega) a.length 0 (by omega)
 have loop : ∀ (d j : Nat), j + d = b.length + 1 → Ev (fun k => spec_l6Distance.l0 k (B a) (B b) (nI (List.range j)) (j : Int)) (distL a b : Int) := by
  intro d
  induction d with
  | zero =>
   intro j q
   obtain rfl : j = b.length + 1 := by omega
   exact Ev.step (fun k => spec_l6Distance.l0.eq_2 ..) (Ev.ifF (by rw [size_B]; omega) h0)
  | succ d ih =>
   intro j q
   have := ih (j + 1) (by omega)
   rw [range_I] at this
   refine Ev.step (fun k => spec_l6Distance.l0.eq_2 ..) (Ev.ifT (by rw [size_B]; omega) (Ev.ifT (by rw [nI_length, List.length_range]; omega) ?_))
   rw [wrapS (by omega)]
   exact this
 exact loop (b.length + 1) 0 (by omega)
end Go.Proofs.YtpgobnhklnglhaaGreatDoor.L
namespace Go.Proofs.YtpgobnhklnglhaaGreatDoor.Pure
open Go.RowKit Go.Proofs.YtpgobnhklnglhaaGreatDoor.P Go.Proofs.YtpgobnhklnglhaaGreatDoor.M Go.Proofs.YtpgobnhklnglhaaGreatDoorW.PrintWords Go.Proofs.YtpgobnhklnglhaaGreatDoorW.PrintLast Go.Proofs.YtpgobnhklnglhaaGreatDoorW.PrintMore
open Go.Proofs.YtpgobnhklnglhaaGreatDoor.L
namespace NearWords
def near (w : Txt) (m : Int) (o : Txt) : Bool := decide ((distL o w : Int) ≤ m)
theorem spec_loop {ws : List Txt} (h : OkW ws) (w : Txt) (hw : w.length ≤ 12) (m : Int) (R : List Txt) : ∀ (d i : Nat) (acc : List Txt), i + d = ws.length → acc.length ≤ i → acc ++ (ws.drop i).filter (near w m) = R →
  Ev (fun k => spec_NearWords.l0 k (B w) m (acc.map B) (ws.map B) (i : Int)) (R.map B, true) := by
 have h40 := h.len
 intro d
 induction d with
 | zero =>
  intro i acc q1 q0 q2
  rw [List.drop_of_length_le (by omega), List.filter_nil, List.append_nil] at q2
  subst q2
  exact Ev.step (fun k => spec_NearWords.l0.eq_2 ..) (Ev.ifF (by rw [List.length_map]; omega) (Ev.now _))
 | succ d ih =>
  intro i acc q1 q0 q2
  have hi : i < ws.length := by omega
  have hwi := h.le _ (getD_mem hi)
  rw [drop_cons_getD [] hi, List.filter_cons] at q2
  refine Ev.step (fun k => spec_NearWords.l0.eq_2 ..) (Ev.ifT (by rw [List.length_map]; omega) (Ev.ifT (by omega) ?_))
  rw [rdB ws i hi]
  refine Ev.bind (l6Distance_ev _ w hwi hw) ?_
  by_cases hq : near w m (ws.getD i []) = true
  ·
   rw [if_pos hq] at q2
   refine Ev.ifT (of_decide_eq_true hq) (Ev.ifT (by rw [List.length_map]; omega) ?_)
   rw [wrap64_succ i (by omega)]
   have := ih (i + 1) (acc ++ [ws.getD i []]) (by omega) (by simp; omega) (by rw [List.append_assoc]; exact q2)
   rwa [List.map_append] at this
  ·
   rw [if_neg hq] at q2
   refine Ev.ifF (fun e => hq (decide_eq_true e)) ?_
   rw [wrap64_succ i (by omega)]
   exact ih (i + 1) acc (by omega) (by omega) q2
theorem impl_g {ws : List Txt} (h : OkW ws) (w : Txt) (hw : w.length ≤ 12) (m : Int) : Ev (fun k => impl_NearWords.g k (trN (preL ws) ws) (B w) m) ((ws.filter (near w m)).map B) := by
 have h40 := h.len
 have hok := okFilter h (near w m)
 unfold impl_NearWords.g
 refine Ev.bind (words_ev h) (Ev.ifT (by rw [List.length_map]; omega) (Ev.bind (a := (ws.filter (near w m)).map B) ?_ (Ev.bind (trieOf_ev hok) (words_ev hok))))
 refine filtB_ev _ _ (near w m) fun o ho => ?_
 have := h.le o ho
 unfold impl_NearWords.p near
 exact Ev.bind (distance_ev o w this hw) (Ev.now _)
theorem both (N : List Nd) (w : Txt) (m : Int) (_hw : w.length ≤ 1048576) : ∃ r : List ByteArray × Bool, r.1.length ≤ 1000 ∧ Ev (fun k => spec_NearWords.f k N (B w) m) r ∧ Ev (fun k => impl_NearWords.f k N (B w) m) r := by
 unfold spec_NearWords.f impl_NearWords.f
 rcases good_both N w m _hw with ⟨ws, h, hwd, hm, rfl, e1, e2, e3⟩ | ⟨e1, e2⟩
 ·
  have h12 := (wordL_iff.1 hwd).2
  refine ⟨((ws.filter (near w m)).map B, true), ?_, Ev.some_bind (Ev.bind e1 (Ev.ifT rfl ?_)), Ev.bind e2 (Ev.ifT rfl ?_)⟩
  ·
   rw [List.length_map]; have := (okFilter h (near w m)).len; omega
  ·
   exact Ev.bind (l2Words_ev h) (spec_loop h w h12 m _ ws.length 0 [] (by omega) (by simp) (by rw [List.drop_zero, List.nil_append]))
  ·
   rw [e3]; exact Ev.some_bind (Ev.ifT rfl (Ev.bind (impl_g h w h12 m) (Ev.now _)))
 ·
  exact ⟨([], false), by simp, Ev.some_bind (Ev.bind e1 (Ev.ifF Bool.false_ne_true (Ev.now _))), e2 _⟩
end NearWords
theorem FnExactNearWords : laws_FnExactNearWords.Pure := by
 intro l a m hl ha _
 obtain ⟨w, rfl⟩ := exB a
 by_cases hb : ((B w).size : Int) > 1048576
 ·
  exact ⟨0, by unfold laws_FnExactNearWords.f; rw [if_pos hb]⟩
 rw [size_B] at hb
 by_cases hs : l.length ≤ 1048576
 ·
  obtain ⟨r, hr, h1, h2⟩ := NearWords.both (toN l) w m (by omega)
  have hP := eqTrie_ev (toN l) (by rw [toN_length]; omega)
  have hE := eqStringS_ev r.1 (by omega)
  have hM := markTrie_ev (toN l) (by rw [toN_length]; omega)
  have hT := markStringS_ev r.1 (by omega)
  have hH := heldStringS_ev r.1 (by omega)
  refine Ev.rounds ?_
  unfold laws_FnExactNearWords.f
  refine Ev.ifF (by rw [size_B]; exact hb) ?_
  rw [szTrie_eq l hl, if_pos hs]
  refine Ev.some_bind (Ev.ifF (by omega) (Ev.bind (toTrie_ev l hs) (Ev.bind h1 (Ev.bind (toTrie_ev l hs) (Ev.bind h2 (Ev.bind hE (Ev.ifT rfl ?_)))))))
  refine Ev.step (fun k => laws_FnExactNearWords.j0.eq_2 ..) (Ev.ifF (by simp) (Ev.bind (toTrie_ev l hs) (Ev.bind hP (Ev.ifT rfl (Ev.bind hM (Ev.ifF (by omega) (Ev.bind hE (Ev.ifT rfl ?_))))))))
  refine Ev.step (fun k => laws_FnExactNearWords.j1.eq_2 ..) (Ev.ifF (by simp) (Ev.bind hT (Ev.bind hH (Ev.ifF (by omega) (Ev.ifT rfl (Ev.bind (toTrie_ev l hs) (Ev.bind h2 (Ev.bind hE (Ev.ifT rfl ?_)))))))))
  exact Ev.step (fun k => laws_FnExactNearWords.j2.eq_2 ..) (Ev.ifF (by simp) (Ev.bind hH (Ev.ifF (by omega) (Ev.ifT rfl (Ev.now _)))))
 ·
  exact ⟨0, by unfold laws_FnExactNearWords.f; rw [if_neg (by rw [size_B]; exact hb), szTrie_eq l hl, if_neg hs]; rfl⟩
end Go.Proofs.YtpgobnhklnglhaaGreatDoor.Pure
namespace Go.Proofs.YtpgobnhklnglhaaGreatDoor.fnExactNearWords
open Go.ChangeShapes Go.WideShapes Go.ChangeAt Go.RowKit Go.Proofs.YtpgobnhklnglhaaGreatDoor.P
open Go.ChangeMaps (open_string shut_string)
def laidL : List (String × DataW Unit) := [("unicode/utf8.acceptRanges", Rows.laid_unicode_utf8_acceptRanges), ("unicode/utf8.first", Rows.laid_unicode_utf8_first)]
theorem own : ownKnob Tryz.prog.godebug = none := by kernel_rfl
theorem laidOut : laidOutB Tryz.prog = true := by kernel_rfl
theorem lifted (os : Os) (started : os.Started) (H : Type) (enc : TypeId × Value → H) :
    ReturnsInHanded {} Tryz.checked os 5 .any (fun w args => (Rows.fnExactNearWordsSpec.pre enc Tryz.prog Tryz.f5 [] false w args ∧ laidMetH Tryz.prog laidL w) ∧ sizedMet enc Tryz.prog Tryz.f5 (OpenSpec.ofChange Rows.fnExactNearWordsSpec) false w args) (Rows.fnExactNearWordsSpec.post enc Tryz.prog Tryz.f5 false true false false) := by
  refine returnsInHanded_of_change_and (C := Tryz.checked) (X := fun w _ => laidMetH Tryz.prog laidL w) (fun _ _ _ hh h => h.of_heap hh) own started (by kernel_rfl) Tryz.func5
    (ChangeSpec.witness_shaped (enc := enc) (C := Tryz.checked) (os := os) (X := fun w _ => laidMetH Tryz.prog laidL w) false (World.laidAll Tryz.prog os laidL) #[.agg #[.slice none 0 0], .string ByteArray.empty, .int .i64 0] 8 (World.laidAll_os _ _ _) (World.shaped_of_ZipB (by kernel_rfl) (by kernel_rfl)) (by kernel_rfl) (by kernel_rfl) (by kernel_rfl)
      (by rw [MakeChecks.laidMetH_plain _ _ _ (by kernel_rfl)]; exact laidMet_laidAll _ (by kernel_rfl) (by kernel_rfl))) ?_
  intro W base args ds gs before hval0 hW hcnd hsz0 hL_ _
  have hsz : (DataW.weightsEach Tryz.prog (Tryz.f5.params.toList ++ Rows.fnExactNearWordsSpec.plain.varTypes Tryz.prog) (ds ++ gs)).all (· ≤ reachBytes) = true := hsz0
  have hval : ∀ (j : Nat) t v, Tryz.f5.params[j]? = some t → args[j]? = some v → Value.okWide Tryz.prog W .any base t v := hval0
  have hW' := hW
  obtain ⟨p, q, hA0, hV, rfl, hfz, hnd⟩ := hW
  have hA : DataW.TrodAll enc Tryz.prog W 0 (fun _ => true) true Tryz.f5.params.toList args.toList ds p := hA0
  rw [Tryz.params5] at hA hval hsz
  obtain ⟨v0, vs0, d0, ds0, p0, q0, hargs, rfl, rfl, h0, r0⟩ := trodAll_cons hA
  obtain ⟨v1, vs1, d1, ds1, p1, q1, rfl, rfl, rfl, h1, r1⟩ := trodAll_cons r0
  obtain ⟨v2, vs2, d2, ds2, p2, q2, rfl, rfl, rfl, h2, r2⟩ := trodAll_cons r1
  obtain ⟨rfl, rfl, rfl⟩ := trodAll_nil r2
  obtain rfl : args = #[v0, v1, v2] := by cases args; simp_all
  obtain ⟨rfl, rfl⟩ := trodVars_none hV
  have k0 := h0
  have lt0 : ∀ x ∈ p0, x.block < W.heap.size := by obtain ⟨m, hm⟩ := k0; exact DataW.trod_lt m _ _ _ hm
  obtain ⟨A0, c0, l0, ev0, hc0, hr0⟩ := OT.trie (hval 0 24 v0 rfl rfl) h0
  subst ev0
  obtain ⟨a1, rfl, rfl, rfl, y1⟩ := open_string Tryz.underlying9 (hval 1 9 v1 rfl rfl) h1
  have w1 : a1.size ≤ 140737488351232 := by
    have z := sized_string hsz (j := 1) (t := 9) rfl rfl
    rw [Array.length_toList] at z
    exact z
  obtain ⟨a2, rfl, rfl, rfl, w2⟩ := open_int Tryz.underlying3 (hval 2 3 v2 rfl rfl) h2
  clear hA0 hval0 hsz0 hsz
  refine (laws_FnExactNearWords.walk Pure.FnExactNearWords W A0 c0 l0 hr0 hc0 a1 w1 a2 w2).mono fun e W' ⟨he, bel⟩ => ?_
  subst he
  exact ⟨_, rfl, _, _, _, [], _, [], hW', trodAll_mk1 (shut_bool Tryz.underlying4 _), (trodAll_cons_mk (Below.trod laidOut (by kernel_rfl) (of_decide_eq_true (by kernel_rfl)) k0 bel lt0) (trodAll_cons_mk (shut_string Tryz.underlying9 y1) (trodAll_cons_mk (shut_int Tryz.underlying3 w2) trodAll_mk0))), rfl, bel.frame _, fun h => by cases h⟩
theorem over : Rows.fnExactNearWordsRow.holds Tryz.pinned (OpenSpec.ofChange Rows.fnExactNearWordsSpec) :=
  OpenClaim.holds_of_wide 5 Tryz.f5 rfl rfl rfl rfl rfl rfl rfl ⟨rfl, rfl, rfl, rfl, rfl⟩ rfl rfl rfl rfl rfl (by kernel_rfl) Tryz.func5 (by kernel_rfl)
    (of_decide_eq_true (by kernel_rfl)) (by unfold Func.isWrapper; first | (rw [if_pos (by decide +kernel)]; kernel_rfl) | (rw [if_neg (by decide +kernel)]; exact ⟨rfl, rfl⟩))
    (fun os started H enc _ => lifted os started H enc)
theorem proved : Rows.FnExactNearWordsSaid := over
end Go.Proofs.YtpgobnhklnglhaaGreatDoor.fnExactNearWords
namespace Go.Proofs.YtpgobnhklnglhaaGreatDoor
theorem fnExactNearWords_holds : Rows.FnExactNearWordsSaid := fnExactNearWords.proved
theorem fnExactNearWords_card : Rows.FnExactNearWordsCardSaid :=
  Claim7.holds_tied_plain_at .later [] [.data, .pinned] true (true, "18b5349811558f14302ef38075f311b450dddf946eda31796879a43ec673fad8") false
    fnExactNearWords_holds (fun _ h => by cases h) (by kernel_rfl) (fun _ h => by cases h) fnExactNearWords_row_tie rfl ⟨rfl, rfl⟩ (by kernel_rfl) rfl
    (fun f fn hf hfn => by
      obtain rfl : f = 5 := Option.some.inj ((show Tryz.prog.funcNamed "loop.example/g01243/laws.FnExactNearWords" = some 5 by kernel_rfl).symm.trans hf) |>.symm
      obtain rfl : fn = Tryz.f5 := (Option.some.inj (Tryz.func5.symm.trans hfn)).symm
      exact ⟨by kernel_rfl, fun j t ht => by
        rw [Tryz.params5] at ht
        have hm : t ∈ [24, 9, 3] := by simpa using Array.mem_of_getElem? ht
        have hall : ([24, 9, 3].all fun u => !Tryz.prog.wantsStandIn u) = true := by kernel_rfl
        exact (show Tryz.prog.wantsStandIn t = false by simpa using List.all_eq_true.1 hall t hm)⟩)
    (by kernel_rfl)
end Go.Proofs.YtpgobnhklnglhaaGreatDoor
