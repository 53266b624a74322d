/-
  Part 2 of the proof that FnExactNearestWord returns true for every input: the functions that it reaches, each with its contract, and the law.
  Conditions: those of the given statement, no others.
-/
import Derived.Test.YtpgobnhklnglhaaDoorKDW0
import Derived.Test.YtpgobnhklnglhaaDoorRows
import Derived.WalkKit
import Derived.ProofKit
import Derived.OpenShut
import Derived.ShutString
import Derived.ChangeOld
import Derived.Below
import Derived.SizedLaws
import Derived.Lay
import Derived.LaidOnce
import Derived.SevenTiedAt
import Derived.Test.YtpgobnhklnglhaaDoorCards
import Derived.Test.YtpgobnhklnglhaaDoorTie
import Derived.Test.YtpgobnhklnglhaaDoorKD0
import Derived.Test.YtpgobnhklnglhaaDoorCFnExactNearestWord0
import Derived.Test.YtpgobnhklnglhaaDoorKD1
import Derived.Test.YtpgobnhklnglhaaDoorKD2
set_option linter.unusedVariables false
set_option linter.unusedSimpArgs false
set_option maxHeartbeats 8000000
set_option maxRecDepth 100000
namespace Go.Proofs.YtpgobnhklnglhaaDoor.P
open Go.RowKit Go.Proofs.YtpgobnhklnglhaaDoorW.PrintWords Go.Proofs.YtpgobnhklnglhaaDoorW.PrintLast Go.Proofs.YtpgobnhklnglhaaDoorW.PrintMore
attribute [local go_sem] max2_int min2_int max_two min_two max_three min_three max_four min_four
def laws_FnExactNearestWord.j0 : Nat → Bool → List (S85) → List (S70) → Option (Bool)
 | 0, _, _, _ => none
 | k + 1, x50, x538000, x549000 => if x50 = true then (some false) else ((laws_toTrie.f k x538000).bind fun t552 => ((laws_eqTrie.f k x549000 t552).bind fun t555 => (if t555 = true then (some true) else (some false))))
def laws_FnExactNearestWord.f (k : Nat) (l0_0 : List (S85)) (a1 : ByteArray) : Option (Bool) := if (a1.size : Int) > 1048576 then (some true) else ((laws_szTrie.f l0_0 1048576).bind fun t538 => (if t538 < 0 then (some true) else ((laws_toTrie.f k l0_0).bind fun t539 => ((spec_NearestWord.f k t539 a1).bind fun bt542 => ((laws_toTrie.f k l0_0).bind fun t545 => ((impl_NearestWord.f k t545 a1).bind fun bt549 => (if bt549.1.toList = bt542.1.toList then (if bt549.2.1 = bt542.2.1 then (laws_FnExactNearestWord.j0 k (bt549.2.2 != bt542.2.2) l0_0 t545) else (laws_FnExactNearestWord.j0 k true l0_0 t545)) else (laws_FnExactNearestWord.j0 k true l0_0 t545))))))))
theorem laws_FnExactNearestWord.mono_l : ∀ k, (∀ y0 y1 y2, LeO (laws_FnExactNearestWord.j0 k y0 y1 y2) (laws_FnExactNearestWord.j0 (k + 1) y0 y1 y2))
 | 0 => fun _ _ _ r h => by simp [laws_FnExactNearestWord.j0] at h
 | k + 1 => by
  have ih0 := laws_FnExactNearestWord.mono_l k
  ·
   intro y0 y1 y2
   unfold laws_FnExactNearestWord.j0
   repeat' first
   | (with_reducible exact ih0 _ _ _)
   | (with_reducible exact impl_NearestWord.mono _ _ _)
   | (with_reducible exact laws_eqTrie.mono _ _ _)
   | (with_reducible exact laws_toTrie.mono _ _)
   | (with_reducible exact spec_NearestWord.mono _ _ _)
   | (with_reducible exact LeO.refl _)
   | (with_reducible exact LeO.none _)
   | (with_reducible refine LeO.ite ?_ ?_)
   | (with_reducible refine LeO.bind ?_ (fun _ => ?_))
   | exact ih0 _ _ _
   | exact impl_NearestWord.mono _ _ _
   | exact laws_eqTrie.mono _ _ _
   | exact laws_toTrie.mono _ _
   | exact spec_NearestWord.mono _ _ _
   | exact LeO.none _
   | refine LeO.ite ?_ ?_
   | refine LeO.bind ?_ (fun _ => ?_)
theorem laws_FnExactNearestWord.mono : ∀ a0 a1 k, LeO (laws_FnExactNearestWord.f k a0 a1) (laws_FnExactNearestWord.f (k + 1) a0 a1) := by
 intro a0 a1 k
 have ih0 := laws_FnExactNearestWord.mono_l k
 unfold laws_FnExactNearestWord.f
 repeat' first
   | (with_reducible exact ih0 _ _ _)
   | (with_reducible exact impl_NearestWord.mono _ _ _)
   | (with_reducible exact laws_eqTrie.mono _ _ _)
   | (with_reducible exact laws_toTrie.mono _ _)
   | (with_reducible exact spec_NearestWord.mono _ _ _)
   | (with_reducible exact LeO.refl _)
   | (with_reducible exact LeO.none _)
   | (with_reducible refine LeO.ite ?_ ?_)
   | (with_reducible refine LeO.bind ?_ (fun _ => ?_))
   | exact ih0 _ _ _
   | exact impl_NearestWord.mono _ _ _
   | exact laws_eqTrie.mono _ _ _
   | exact laws_toTrie.mono _ _
   | exact spec_NearestWord.mono _ _ _
   | exact LeO.none _
   | refine LeO.ite ?_ ?_
   | refine LeO.bind ?_ (fun _ => ?_)
theorem laws_FnExactNearestWord.calls (k : Nat) (A0_0 : Option Addr) (c0_0 : Nat) (l0_0 : List (S85)) (a1 : ByteArray) (r : Bool) (w : World) (hr0_0 : Kd.C k85 w A0_0 l0_0.length l0_0) (hc0_0 : l0_0.length ≤ c0_0) (h : laws_FnExactNearestWord.f k l0_0 a1 = some r) :
  Calls Tryd.prog 6 #[.agg #[.slice A0_0 l0_0.length c0_0], .string a1] w fun e w' => e = .returned (.bool r) ∧ Below w.heap.size w w' := by
 have hu40 := Tryd.underlying40
 have hu27 := Tryd.underlying27
 have HR0_0 := Aside0.mk hr0_0
 have HC0_0 := Aside0.mk hc0_0
 clear hr0_0 hc0_0
 have HB := Aside0.mk (Below.refl w.heap.size w)
 have H : (if (a1.size : Int) > 1048576 then (some true) else ((laws_szTrie.f l0_0 1048576).bind fun t538 => (if t538 < 0 then (some true) else ((laws_toTrie.f k l0_0).bind fun t539 => ((spec_NearestWord.f k t539 a1).bind fun bt542 => ((laws_toTrie.f k l0_0).bind fun t545 => ((impl_NearestWord.f k t545 a1).bind fun bt549 => (if bt549.1.toList = bt542.1.toList then (if bt549.2.1 = bt542.2.1 then (laws_FnExactNearestWord.j0 k (bt549.2.2 != bt542.2.2) l0_0 t545) else (laws_FnExactNearestWord.j0 k true l0_0 t545)) else (laws_FnExactNearestWord.j0 k true l0_0 t545))))))))) = some r := h
 clear h
 by_cases c3 : (a1.size : Int) > 1048576
 ·
  rw [if_pos c3] at H
  have c3b0 : decide (1048576 < (a1.size : Int)) = true := decide_eq_true c3
  have c3b1 : decide (1048576 < a1.size) = true := decide_eq_true (by omega)
  clear c3
  obtain rfl := Option.some.inj H
  go_enter Tryd.func6, Tryd.ntmps6
  go_wp2_with (first | ((with_reducible refine gate_dst (N := 2) rfl ?_); refine box_event ?hg (N := 2) ?hd (cs := #[.slice A0_0 l0_0.length c0_0]) (t := 40) ?hr ?_; (case hd => rfl); (case hg => rfl); (case hr => first | (go_simp; done) | (go_simp; rfl)); intro gb537 hg w4 hbox hb; have n0_ := Aside0.mk (below_step (by repeat (first | (with_reducible first | exact HB.out | apply below_alloc | apply pw_below_drewN | apply below_drew1) | exact HB.out)) hb); have n1_ := Aside0.mk (hbox); have n2_ := Aside0.mk ((by rw [hg]; exact (below_size (by repeat (first | (with_reducible first | exact HB.out | apply below_alloc | apply pw_below_drewN | apply below_drew1) | exact HB.out))) : w.heap.size ≤ gb537)); have n3_ := Aside0.mk ((by rw [hg]; exact (below_size (by repeat (first | (with_reducible first | exact HB.out | apply below_alloc | apply pw_below_drewN | apply below_drew1) | exact HB.out))) : w.heap.size ≤ gb537)); clear HB; have HB := n0_; have BK537 := n1_; have GW537 := n2_; have GE537 := n3_; clear n0_ n1_ n2_ n3_; clear hb hbox hg))
  go_ret
  exact ⟨by first | rfl | (simp [errW_none, errW_some] <;> rfl) | (simp [*, errW_none, errW_some] <;> rfl), by repeat (first | (with_reducible first | exact HB.out | apply below_alloc | apply pw_below_drewN | apply below_drew1 | refine below_set ?_ GE537.out) | exact HB.out)⟩
 ·
  rw [if_neg c3] at H
  have c3b0 : decide (1048576 < (a1.size : Int)) = false := decide_eq_false c3
  have c3b1 : decide (1048576 < a1.size) = false := decide_eq_false (by omega)
  clear c3
  replace H := Option.bind_eq_some_iff.mp H
  obtain ⟨t538, A50, H⟩ := H
  replace H : (if t538 < 0 then (some true) else ((laws_toTrie.f k l0_0).bind fun t539 => ((spec_NearestWord.f k t539 a1).bind fun bt542 => ((laws_toTrie.f k l0_0).bind fun t545 => ((impl_NearestWord.f k t545 a1).bind fun bt549 => (if bt549.1.toList = bt542.1.toList then (if bt549.2.1 = bt542.2.1 then (laws_FnExactNearestWord.j0 k (bt549.2.2 != bt542.2.2) l0_0 t545) else (laws_FnExactNearestWord.j0 k true l0_0 t545)) else (laws_FnExactNearestWord.j0 k true l0_0 t545))))))) = some r := H
  have A5 := Aside0.mk A50
  clear A50
  by_cases c6 : t538 < 0
  ·
   rw [if_pos c6] at H
   have c6b0 : decide (t538 < 0) = true := decide_eq_true c6
   clear c6
   obtain rfl := Option.some.inj H
   go_enter Tryd.func6, Tryd.ntmps6
   go_wp2_with (first | ((with_reducible refine gate_dst (N := 2) rfl ?_); refine box_event ?hg (N := 2) ?hd (cs := #[.slice A0_0 l0_0.length c0_0]) (t := 40) ?hr ?_; (case hd => rfl); (case hg => rfl); (case hr => first | (go_simp; done) | (go_simp; rfl)); intro gb537 hg w7 hbox hb; have n0_ := Aside0.mk (below_step (by repeat (first | (with_reducible first | exact HB.out | apply below_alloc | apply pw_below_drewN | apply below_drew1) | exact HB.out)) hb); have n1_ := Aside0.mk (hbox); have n2_ := Aside0.mk ((by rw [hg]; exact (below_size (by repeat (first | (with_reducible first | exact HB.out | apply below_alloc | apply pw_below_drewN | apply below_drew1) | exact HB.out))) : w.heap.size ≤ gb537)); have n3_ := Aside0.mk ((by rw [hg]; exact (below_size (by repeat (first | (with_reducible first | exact HB.out | apply below_alloc | apply pw_below_drewN | apply below_drew1) | exact HB.out))) : w.heap.size ≤ gb537)); clear HB; have HB := n0_; have BK537 := n1_; have GW537 := n2_; have GE537 := n3_; clear n0_ n1_ n2_ n3_; clear hb hbox hg; have hcz8_0 : w7.cell? ⟨gb537, 0, none⟩ = some (.slice A0_0 l0_0.length c0_0) := (blk_cell BK537.out 0).trans rfl; have hfz8_0 := blk_frozen BK537.out 0) | ((with_reducible refine gate_callee (f := 19) rfl ?_); refine goesL_ (some 18) rfl rfl Tryd.func19 (by kernel_rfl) rfl #[.agg #[.slice A0_0 l0_0.length c0_0], .int .i64 1048576] rfl (by (try simp only [List.map_toArray, List.map_cons, List.map_nil]); first | done | rfl | (simp only [List.length_drop, List.length_take]; rfl)) ?_; (with_reducible refine (laws_szTrie.calls _ _ l0_0 1048576 t538 _ ?side1 ?side2 A5.out).mono ?_); (case side1 => repeat (first | exact (Kd.C_below HR0_0.out HB.out) | (with_reducible refine Kd.C_alloc ?_ _) | (with_reducible refine Kd.C_drewN ?_ _) | (with_reducible refine Kd.C_drew ?_))); (case side2 => exact HC0_0.out); rintro e w9 ⟨rfl, hb⟩; refine ⟨_, rfl, ?_⟩; have n0_ := Aside0.mk (blk_below (g := gb537) (o := .cells #[.slice A0_0 l0_0.length c0_0] 40 (0, 0)) (by (with_reducible repeat (first | refine blk_drewN ?_ _ | refine blk_drew ?_ | refine blk_alloc ?_ _)); exact BK537.out) hb); have n1_ := Aside0.mk (below_step (by repeat (first | (with_reducible first | exact HB.out | apply below_alloc | apply pw_below_drewN | apply below_drew1 | refine below_set ?_ GE537.out) | exact HB.out)) hb); clear BK537; clear HB; have BK537 := n0_; have HB := n1_; clear n0_ n1_; (try clear hb); (try clear hb2); (try clear hk); (try clear hi)))
   go_ret
   exact ⟨by first | rfl | (simp [errW_none, errW_some] <;> rfl) | (simp [*, errW_none, errW_some] <;> rfl), by repeat (first | (with_reducible first | exact HB.out | apply below_alloc | apply pw_below_drewN | apply below_drew1 | refine below_set ?_ GE537.out) | exact HB.out)⟩
  ·
   rw [if_neg c6] at H
   have c6b0 : decide (t538 < 0) = false := decide_eq_false c6
   clear c6
   replace H := Option.bind_eq_some_iff.mp H
   obtain ⟨t539, A100, H⟩ := H
   replace H : ((spec_NearestWord.f k t539 a1).bind fun bt542 => ((laws_toTrie.f k l0_0).bind fun t545 => ((impl_NearestWord.f k t545 a1).bind fun bt549 => (if bt549.1.toList = bt542.1.toList then (if bt549.2.1 = bt542.2.1 then (laws_FnExactNearestWord.j0 k (bt549.2.2 != bt542.2.2) l0_0 t545) else (laws_FnExactNearestWord.j0 k true l0_0 t545)) else (laws_FnExactNearestWord.j0 k true l0_0 t545))))) = some r := H
   have A10 := Aside0.mk A100
   clear A100
   replace H := Option.bind_eq_some_iff.mp H
   obtain ⟨⟨t542, t543, t544⟩, A110, H⟩ := H
   replace H : ((laws_toTrie.f k l0_0).bind fun t545 => ((impl_NearestWord.f k t545 a1).bind fun bt549 => (if bt549.1.toList = t542.toList then (if bt549.2.1 = t543 then (laws_FnExactNearestWord.j0 k (bt549.2.2 != t544) l0_0 t545) else (laws_FnExactNearestWord.j0 k true l0_0 t545)) else (laws_FnExactNearestWord.j0 k true l0_0 t545)))) = some r := H
   have A11 := Aside0.mk A110
   clear A110
   replace H := Option.bind_eq_some_iff.mp H
   obtain ⟨t545, A120, H⟩ := H
   replace H : ((impl_NearestWord.f k t545 a1).bind fun bt549 => (if bt549.1.toList = t542.toList then (if bt549.2.1 = t543 then (laws_FnExactNearestWord.j0 k (bt549.2.2 != t544) l0_0 t545) else (laws_FnExactNearestWord.j0 k true l0_0 t545)) else (laws_FnExactNearestWord.j0 k true l0_0 t545))) = some r := H
   have A12 := Aside0.mk A120
   clear A120
   replace H := Option.bind_eq_some_iff.mp H
   obtain ⟨⟨t549, t550, t551⟩, A130, H⟩ := H
   replace H : (if t549.toList = t542.toList then (if t550 = t543 then (laws_FnExactNearestWord.j0 k (t551 != t544) l0_0 t545) else (laws_FnExactNearestWord.j0 k true l0_0 t545)) else (laws_FnExactNearestWord.j0 k true l0_0 t545)) = some r := H
   have A13 := Aside0.mk A130
   clear A130
   have HC14 := Aside0.mk H
   clear H
   go_enter Tryd.func6, Tryd.ntmps6
   go_upto_region 10 with (first | ((with_reducible refine gate_dst (N := 2) rfl ?_); refine box_event ?hg (N := 2) ?hd (cs := #[.slice A0_0 l0_0.length c0_0]) (t := 40) ?hr ?_; (case hd => rfl); (case hg => rfl); (case hr => first | (go_simp; done) | (go_simp; rfl)); intro gb537 hg w15 hbox hb; have n0_ := Aside0.mk (below_step (by repeat (first | (with_reducible first | exact HB.out | apply below_alloc | apply pw_below_drewN | apply below_drew1) | exact HB.out)) hb); have n1_ := Aside0.mk (hbox); have n2_ := Aside0.mk ((by rw [hg]; exact (below_size (by repeat (first | (with_reducible first | exact HB.out | apply below_alloc | apply pw_below_drewN | apply below_drew1) | exact HB.out))) : w.heap.size ≤ gb537)); have n3_ := Aside0.mk ((by rw [hg]; exact (below_size (by repeat (first | (with_reducible first | exact HB.out | apply below_alloc | apply pw_below_drewN | apply below_drew1) | exact HB.out))) : w.heap.size ≤ gb537)); clear HB; have HB := n0_; have BK537 := n1_; have GW537 := n2_; have GE537 := n3_; clear n0_ n1_ n2_ n3_; clear hb hbox hg; have hcz16_0 : w15.cell? ⟨gb537, 0, none⟩ = some (.slice A0_0 l0_0.length c0_0) := (blk_cell BK537.out 0).trans rfl; have hfz16_0 := blk_frozen BK537.out 0) | ((with_reducible refine gate_callee (f := 19) rfl ?_); refine goesL_ (some 18) rfl rfl Tryd.func19 (by kernel_rfl) rfl #[.agg #[.slice A0_0 l0_0.length c0_0], .int .i64 1048576] rfl (by (try simp only [List.map_toArray, List.map_cons, List.map_nil]); first | done | rfl | (simp only [List.length_drop, List.length_take]; rfl)) ?_; (with_reducible refine (laws_szTrie.calls _ _ l0_0 1048576 t538 _ ?side1 ?side2 A5.out).mono ?_); (case side1 => repeat (first | exact (Kd.C_below HR0_0.out HB.out) | (with_reducible refine Kd.C_alloc ?_ _) | (with_reducible refine Kd.C_drewN ?_ _) | (with_reducible refine Kd.C_drew ?_))); (case side2 => exact HC0_0.out); rintro e w17 ⟨rfl, hb⟩; refine ⟨_, rfl, ?_⟩; have n0_ := Aside0.mk (blk_below (g := gb537) (o := .cells #[.slice A0_0 l0_0.length c0_0] 40 (0, 0)) (by (with_reducible repeat (first | refine blk_drewN ?_ _ | refine blk_drew ?_ | refine blk_alloc ?_ _)); exact BK537.out) hb); have n1_ := Aside0.mk (below_step (by repeat (first | (with_reducible first | exact HB.out | apply below_alloc | apply pw_below_drewN | apply below_drew1 | refine below_set ?_ GE537.out) | exact HB.out)) hb); clear BK537; clear HB; have BK537 := n0_; have HB := n1_; clear n0_ n1_; (try clear hb); (try clear hb2); (try clear hk); (try clear hi); have hcz18_0 : w17.cell? ⟨gb537, 0, none⟩ = some (.slice A0_0 l0_0.length c0_0) := (blk_cell BK537.out 0).trans rfl; have hfz18_0 := blk_frozen BK537.out 0) | ((with_reducible refine gate_callee (f := 21) rfl ?_); refine goesL_ (some 23) rfl rfl Tryd.func21 (by kernel_rfl) rfl #[.agg #[.slice A0_0 l0_0.length c0_0]] rfl (by (try simp only [List.map_toArray, List.map_cons, List.map_nil]); first | done | rfl | (simp only [List.length_drop, List.length_take]; rfl)) ?_; (with_reducible refine (laws_toTrie.calls k _ _ l0_0 t539 _ ?side1 ?side2 A10.out).mono ?_); (case side1 => repeat (first | exact (Kd.C_below HR0_0.out HB.out) | (with_reducible refine Kd.C_alloc ?_ _) | (with_reducible refine Kd.C_drewN ?_ _) | (with_reducible refine Kd.C_drew ?_))); (case side2 => exact HC0_0.out); rintro e w19 ⟨v540, rfl, ho0, hb⟩; refine ⟨_, rfl, ?_⟩; have n0_ := Aside0.mk (Kd.R_lower ho0 (below_size (by repeat (first | (with_reducible first | exact HB.out | apply below_alloc | apply pw_below_drewN | apply below_drew1 | refine below_set ?_ GE537.out) | exact HB.out)))); have n1_ := Aside0.mk (blk_below (g := gb537) (o := .cells #[.slice A0_0 l0_0.length c0_0] 40 (0, 0)) (by (with_reducible repeat (first | refine blk_drewN ?_ _ | refine blk_drew ?_ | refine blk_alloc ?_ _)); exact BK537.out) hb); have n2_ := Aside0.mk (below_step (by repeat (first | (with_reducible first | exact HB.out | apply below_alloc | apply pw_below_drewN | apply below_drew1 | refine below_set ?_ GE537.out) | exact HB.out)) hb); clear BK537; clear HB; have HO541 := n0_; have BK537 := n1_; have HB := n2_; clear n0_ n1_ n2_; (try clear hb); (try clear hb2); (try clear hk); (try clear hi); (try clear ho0); obtain ⟨Ao20, co20, eo20⟩ := Kd.R_slice HO541.out; subst eo20) | ((with_reducible refine gate_callee (f := 20) rfl ?_); refine goesL_ (some 25) rfl rfl Tryd.func20 (by kernel_rfl) rfl #[.agg #[.slice Ao20 t539.length co20], .string a1] rfl (by (try simp only [List.map_toArray, List.map_cons, List.map_nil]); first | done | rfl | (simp only [List.length_drop, List.length_take]; rfl)) ?_; (with_reducible refine (spec_NearestWord.calls k _ _ t539 a1 t542 t543 t544 _ ?side1 ?side2 A11.out).mono ?_); (case side1 => repeat (first | exact (Kd.R_reads' HO541.out).2.2 | (with_reducible refine Kd.C_alloc ?_ _) | (with_reducible refine Kd.C_drewN ?_ _) | (with_reducible refine Kd.C_drew ?_))); (case side2 => exact (Kd.R_reads' HO541.out).2.1); rintro e w21 ⟨rfl, hb⟩; refine ⟨_, rfl, ?_⟩; have n0_ := Aside0.mk (Kd.R_below (by (with_reducible repeat (first | apply Kd.R_alloc | apply Kd.R_drewN | apply Kd.R_drew)); exact HO541.out) hb); have n1_ := Aside0.mk (blk_below (g := gb537) (o := .cells #[.slice A0_0 l0_0.length c0_0] 40 (0, 0)) (by (with_reducible repeat (first | refine blk_drewN ?_ _ | refine blk_drew ?_ | refine blk_alloc ?_ _)); exact BK537.out) hb); have n2_ := Aside0.mk (below_step (by repeat (first | (with_reducible first | exact HB.out | apply below_alloc | apply pw_below_drewN | apply below_drew1 | refine below_set ?_ GE537.out) | exact HB.out)) hb); clear HO541; clear BK537; clear HB; have HO541 := n0_; have BK537 := n1_; have HB := n2_; clear n0_ n1_ n2_; (try clear hb); (try clear hb2); (try clear hk); (try clear hi); have hcz22_0 : w21.cell? ⟨gb537, 0, none⟩ = some (.slice A0_0 l0_0.length c0_0) := (blk_cell BK537.out 0).trans rfl; have hfz22_0 := blk_frozen BK537.out 0) | ((with_reducible refine gate_callee (f := 21) rfl ?_); refine goesL_ (some 30) rfl rfl Tryd.func21 (by kernel_rfl) rfl #[.agg #[.slice A0_0 l0_0.length c0_0]] rfl (by (try simp only [List.map_toArray, List.map_cons, List.map_nil]); first | done | rfl | (simp only [List.length_drop, List.length_take]; rfl)) ?_; (with_reducible refine (laws_toTrie.calls k _ _ l0_0 t545 _ ?side1 ?side2 A12.out).mono ?_); (case side1 => repeat (first | exact (Kd.C_below HR0_0.out HB.out) | (with_reducible refine Kd.C_alloc ?_ _) | (with_reducible refine Kd.C_drewN ?_ _) | (with_reducible refine Kd.C_drew ?_))); (case side2 => exact HC0_0.out); rintro e w23 ⟨v546, rfl, ho0, hb⟩; refine ⟨_, rfl, ?_⟩; have n0_ := Aside0.mk (Kd.R_elder' (by (with_reducible repeat (first | apply Kd.R_alloc | apply Kd.R_drewN | apply Kd.R_drew)); exact HO541.out) (Kd.R_base ho0) hb); have n1_ := Aside0.mk (Kd.R_lower (Kd.R_new' ho0 (Kd.R_lt (by (with_reducible repeat (first | apply Kd.R_alloc | apply Kd.R_drewN | apply Kd.R_drew)); exact HO541.out))) (below_size (by repeat (first | (with_reducible first | exact HB.out | apply below_alloc | apply pw_below_drewN | apply below_drew1 | refine below_set ?_ GE537.out) | exact HB.out)))); have n2_ := Aside0.mk (blk_below (g := gb537) (o := .cells #[.slice A0_0 l0_0.length c0_0] 40 (0, 0)) (by (with_reducible repeat (first | refine blk_drewN ?_ _ | refine blk_drew ?_ | refine blk_alloc ?_ _)); exact BK537.out) hb); have n3_ := Aside0.mk (below_step (by repeat (first | (with_reducible first | exact HB.out | apply below_alloc | apply pw_below_drewN | apply below_drew1 | refine below_set ?_ GE537.out) | exact HB.out)) hb); clear HO541; clear BK537; clear HB; have HO541 := n0_; have HO547 := n1_; have BK537 := n2_; have HB := n3_; clear n0_ n1_ n2_ n3_; (try clear hb); (try clear hb2); (try clear hk); (try clear hi); (try clear ho0)) | ((with_reducible refine gate_dst (N := 9) rfl ?_); refine box_event ?hg (N := 9) ?hd (cs := #[.slice none 0 0]) (t := 27) ?hr ?_; (case hd => rfl); (case hg => rfl); (case hr => first | (go_simp; done) | (go_simp; rfl)); intro gb548 hg w24 hbox hb; have n0_ := Aside0.mk (Kd.R_below (by (with_reducible repeat (first | apply Kd.R_alloc | apply Kd.R_drewN | apply Kd.R_drew)); exact HO541.out) hb); have n1_ := Aside0.mk (Kd.R_below (by (with_reducible repeat (first | apply Kd.R_alloc | apply Kd.R_drewN | apply Kd.R_drew)); exact HO547.out) hb); have n2_ := Aside0.mk (blk_below (g := gb537) (o := .cells #[.slice A0_0 l0_0.length c0_0] 40 (0, 0)) (by (with_reducible repeat (first | refine blk_drewN ?_ _ | refine blk_drew ?_ | refine blk_alloc ?_ _)); exact BK537.out) hb); have n3_ := Aside0.mk (below_step (by repeat (first | (with_reducible first | exact HB.out | apply below_alloc | apply pw_below_drewN | apply below_drew1 | refine below_set ?_ GE537.out) | exact HB.out)) hb); have n4_ := Aside0.mk (hbox); have n5_ := Aside0.mk ((by rw [hg]; exact (below_size (by repeat (first | (with_reducible first | exact HB.out | apply below_alloc | apply pw_below_drewN | apply below_drew1 | refine below_set ?_ GE537.out) | exact HB.out))) : w.heap.size ≤ gb548)); have n6_ := Aside0.mk ((by rw [hg]; exact (below_size (by repeat (first | (with_reducible first | exact HB.out | apply below_alloc | apply pw_below_drewN | apply below_drew1 | refine below_set ?_ GE537.out) | exact HB.out))) : w.heap.size ≤ gb548)); have n7_ := Aside0.mk ((by rw [hg]; exact Nat.ne_of_lt (blk_lt (g := gb537) (o := .cells #[.slice A0_0 l0_0.length c0_0] 40 (0, 0)) (by (with_reducible repeat (first | refine blk_drewN ?_ _ | refine blk_drew ?_ | refine blk_alloc ?_ _)); exact BK537.out)) : gb537 ≠ gb548)); have n8_ := Aside0.mk ((by rw [hg]; exact Nat.ne_of_gt (blk_lt (g := gb537) (o := .cells #[.slice A0_0 l0_0.length c0_0] 40 (0, 0)) (by (with_reducible repeat (first | refine blk_drewN ?_ _ | refine blk_drew ?_ | refine blk_alloc ?_ _)); exact BK537.out)) : gb548 ≠ gb537)); clear HO541; clear HO547; clear BK537; clear HB; have HO541 := n0_; have HO547 := n1_; have BK537 := n2_; have HB := n3_; have BK548 := n4_; have GW548 := n5_; have GE548 := n6_; have NB537_548 := n7_; have NB548_537 := n8_; clear n0_ n1_ n2_ n3_ n4_ n5_ n6_ n7_ n8_; clear hb hbox hg; obtain ⟨Ao25, co25, eo25⟩ := Kd.R_slice HO547.out; subst eo25; have hnb26 := NB548_537.out; have hnc26 := NB537_548.out; have hcz27_0 : w24.cell? ⟨gb548, 0, none⟩ = some (.slice none 0 0) := (blk_cell BK548.out 0).trans rfl; have hfz27_0 := blk_frozen BK548.out 0) | ((with_reducible refine gate_callee (f := 22) rfl ?_); refine goesL_ (some 34) rfl rfl Tryd.func22 (by kernel_rfl) rfl #[.agg #[.slice Ao25 t545.length co25], .string a1] rfl (by (try simp only [List.map_toArray, List.map_cons, List.map_nil]); first | done | rfl | (simp only [List.length_drop, List.length_take]; rfl)) ?_; (with_reducible refine (impl_NearestWord.calls k _ _ t545 a1 t549 t550 t551 _ ?side1 ?side2 A13.out).mono ?_); (case side1 => refine (Kd.R_reads' (e := 70) (base := w.heap.size) (ok := fun k_ => (True ∧ some k_ ≠ (.slice Ao20 t539.length co20 : Value).ownBlock)) (n := t545.length) (c := co25) ?_).2.2; exact (by (with_reducible repeat (first | apply Kd.R_alloc | apply Kd.R_drewN | apply Kd.R_drew)); exact (Kd.R_mono (Kd.R_far (p := ⟨gb548, 0, none⟩) (Kd.R_types HO547.out BK548.out (by decide)) (fun _ hk => hk.2) (.slice Ao25 t545.length co25)) (fun _ h_ => h_.1)))); (case side2 => exact (Kd.R_reads' HO547.out).2.1); rintro e w28 ⟨rfl, hb⟩; refine ⟨_, rfl, ?_⟩; have n0_ := Aside0.mk (Kd.R_below (by (with_reducible repeat (first | apply Kd.R_alloc | apply Kd.R_drewN | apply Kd.R_drew)); exact (Kd.R_mono (Kd.R_far (p := ⟨gb548, 0, none⟩) (Kd.R_types HO541.out BK548.out (by decide)) (fun _ hk => hk.2) (.slice Ao25 t545.length co25)) (fun _ h_ => h_.1))) hb); have n1_ := Aside0.mk (Kd.R_below (by (with_reducible repeat (first | apply Kd.R_alloc | apply Kd.R_drewN | apply Kd.R_drew)); exact (Kd.R_mono (Kd.R_far (p := ⟨gb548, 0, none⟩) (Kd.R_types HO547.out BK548.out (by decide)) (fun _ hk => hk.2) (.slice Ao25 t545.length co25)) (fun _ h_ => h_.1))) hb); have n2_ := Aside0.mk (blk_below (g := gb537) (o := .cells #[.slice A0_0 l0_0.length c0_0] 40 (0, 0)) (by (with_reducible repeat (first | refine blk_drewN ?_ _ | refine blk_drew ?_ | refine blk_alloc ?_ _)); refine blk_far ?_ NB537_548.out _; (with_reducible repeat (first | refine blk_drewN ?_ _ | refine blk_drew ?_ | refine blk_alloc ?_ _)); exact BK537.out) hb); have n3_ := Aside0.mk (blk_below (g := gb548) (o := .cells #[.slice Ao25 t545.length co25] 27 (0, 0)) (by (with_reducible repeat (first | refine blk_drewN ?_ _ | refine blk_drew ?_ | refine blk_alloc ?_ _)); refine blk_put (cs := #[.slice none 0 0]) ?_ 0 _ rfl; (with_reducible repeat (first | refine blk_drewN ?_ _ | refine blk_drew ?_ | refine blk_alloc ?_ _)); exact BK548.out) hb); have n4_ := Aside0.mk (below_step (by repeat (first | (with_reducible first | exact HB.out | apply below_alloc | apply pw_below_drewN | apply below_drew1 | refine below_set ?_ GE537.out | refine below_set ?_ GE548.out) | exact HB.out)) hb); clear HO541; clear HO547; clear BK537; clear BK548; clear HB; have HO541 := n0_; have HO547 := n1_; have BK537 := n2_; have BK548 := n3_; have HB := n4_; clear n0_ n1_ n2_ n3_ n4_; (try clear hb); (try clear hb2); (try clear hk); (try clear hi)))
   (try simp only [Act.put, List.setIfInBounds_toArray, List.set_cons_zero, List.set_cons_succ])
   go_cut [50] (fun v50 wc => ∃ (kq : Nat) (x50_13 : Bool), v50 = .bool x50_13 ∧ Aside0 (laws_FnExactNearestWord.j0 kq x50_13 l0_0 t545 = some r) ∧ Aside0 (kq ≤ k) ∧ Aside0 (Kd.R k70 70 wc w.heap.size (fun _ => True) (.slice Ao25 t545.length co25) t545) ∧ Aside0 (wc.heap[gb537]? = some (.cells #[(.slice A0_0 l0_0.length c0_0)] 40 (0, 0))) ∧ Aside0 (wc.heap[gb548]? = some (.cells #[(.slice Ao25 t545.length co25)] 27 (0, 0))) ∧ Aside0 (Below w.heap.size w wc))
   case first =>
    have H := HC14.out
    clear HC14
    by_cases c29 : t549.toList = t542.toList
    ·
     rw [if_pos c29] at H
     have c29b0 : (t549.toList == t542.toList) = true := beq_iff_eq.mpr c29
     have c29b1 : (t549.toList != t542.toList) = false := bne_eq_false_iff_eq.mpr c29
     clear c29
     (first | rw [c29b0] | (simp only [i64_w, i32_w]; rw [c29b0]) | skip)
     by_cases c30 : t550 = t543
     ·
      rw [if_pos c30] at H
      have c30b0 : (t550 == t543) = true := beq_iff_eq.mpr c30
      have c30b1 : (t550 != t543) = false := bne_eq_false_iff_eq.mpr c30
      clear c30
      have H' := Aside0.mk H
      clear H
      go_wp2
      go_meet
      case rel => exact ⟨_, ((t551 != t544)), (by first | rfl | (simp; done) | (simp [*]; done)), H', ⟨by first | omega | exact Nat.le_refl _⟩, ⟨by (with_reducible repeat (first | apply Kd.R_alloc | apply Kd.R_drewN | apply Kd.R_drew)); exact Kd.R_mono HO547.out (fun _ hk => trivial)⟩, ⟨by (with_reducible repeat (first | refine blk_drewN ?_ _ | refine blk_drew ?_ | refine blk_alloc ?_ _)); exact BK537.out⟩, ⟨by (with_reducible repeat (first | refine blk_drewN ?_ _ | refine blk_drew ?_ | refine blk_alloc ?_ _)); exact BK548.out⟩, ⟨by repeat (first | (with_reducible first | exact HB.out | apply below_alloc | apply pw_below_drewN | apply below_drew1 | refine below_set ?_ GE537.out | refine below_set ?_ GE548.out) | exact HB.out)⟩⟩
     ·
      rw [if_neg c30] at H
      have c30b0 : (t550 == t543) = false := beq_eq_false_iff_ne.mpr c30
      have c30b1 : (t550 != t543) = true := bne_iff_ne.mpr c30
      have H' := Aside0.mk H
      clear H
      go_wp2
      go_meet
      case rel => exact ⟨_, (true), (by first | rfl | (simp; done) | (simp [*]; done)), H', ⟨by first | omega | exact Nat.le_refl _⟩, ⟨by (with_reducible repeat (first | apply Kd.R_alloc | apply Kd.R_drewN | apply Kd.R_drew)); exact Kd.R_mono HO547.out (fun _ hk => trivial)⟩, ⟨by (with_reducible repeat (first | refine blk_drewN ?_ _ | refine blk_drew ?_ | refine blk_alloc ?_ _)); exact BK537.out⟩, ⟨by (with_reducible repeat (first | refine blk_drewN ?_ _ | refine blk_drew ?_ | refine blk_alloc ?_ _)); exact BK548.out⟩, ⟨by repeat (first | (with_reducible first | exact HB.out | apply below_alloc | apply pw_below_drewN | apply below_drew1 | refine below_set ?_ GE537.out | refine below_set ?_ GE548.out) | exact HB.out)⟩⟩
    ·
     rw [if_neg c29] at H
     have c29b0 : (t549.toList == t542.toList) = false := beq_eq_false_iff_ne.mpr c29
     have c29b1 : (t549.toList != t542.toList) = true := bne_iff_ne.mpr c29
     (first | rw [c29b0] | (simp only [i64_w, i32_w]; rw [c29b0]) | skip)
     have H' := Aside0.mk H
     clear H
     go_wp2
     go_meet
     case rel => exact ⟨_, (true), (by first | rfl | (simp; done) | (simp [*]; done)), H', ⟨by first | omega | exact Nat.le_refl _⟩, ⟨by (with_reducible repeat (first | apply Kd.R_alloc | apply Kd.R_drewN | apply Kd.R_drew)); exact Kd.R_mono HO547.out (fun _ hk => trivial)⟩, ⟨by (with_reducible repeat (first | refine blk_drewN ?_ _ | refine blk_drew ?_ | refine blk_alloc ?_ _)); exact BK537.out⟩, ⟨by (with_reducible repeat (first | refine blk_drewN ?_ _ | refine blk_drew ?_ | refine blk_alloc ?_ _)); exact BK548.out⟩, ⟨by repeat (first | (with_reducible first | exact HB.out | apply below_alloc | apply pw_below_drewN | apply below_drew1 | refine below_set ?_ GE537.out | refine below_set ?_ GE548.out) | exact HB.out)⟩⟩
   case rest =>
    clear HC14
    try clear c1
    try clear c2
    try clear p2
    try clear c3
    try clear c3b0
    try clear c3b1
    try clear c6
    try clear c6b0
    try clear c19
    try clear c20
    try clear c21
    try clear c22
    try clear c26
    try clear c29
    try clear c29b0
    try clear c29b1
    try clear c30
    try clear c30b0
    try clear c30b1
    try clear hcz16_0
    try clear hcz18_0
    try clear hcz22_0
    try clear hcz27_0
    try clear hcz8_0
    try clear hfz16_0
    try clear hfz18_0
    try clear hfz22_0
    try clear hfz27_0
    try clear hfz8_0
    obtain ⟨kq, x50_13, rfl, HA, HJ13, HO_549000, BK537, BK548, HB⟩ := hcut
    cases kq with
    | zero => exact absurd HA.out (by simp [laws_FnExactNearestWord.j0])
    | succ kj13 =>
     have H := HA.out
     clear HA
     simp only [laws_FnExactNearestWord.j0] at H
     by_cases c31 : x50_13 = true
     ·
      subst c31
      have H1 : (some false) = some r := by rw [if_pos rfl] at H; exact H
      clear H
      have H := H1
      clear H1
      obtain rfl := Option.some.inj H
      go_wp2
      go_ret
      exact ⟨by first | rfl | (simp [errW_none, errW_some] <;> rfl) | (simp [*, errW_none, errW_some] <;> rfl), by repeat (first | (with_reducible first | exact HB.out | apply below_alloc | apply pw_below_drewN | apply below_drew1 | refine below_set ?_ GE537.out | refine below_set ?_ GE548.out) | exact HB.out)⟩
     ·
      replace c31 := Bool.eq_false_iff.mpr c31
      subst c31
      have H1 : ((laws_toTrie.f kj13 l0_0).bind fun t552 => ((laws_eqTrie.f kj13 t545 t552).bind fun t555 => (if t555 = true then (some true) else (some false)))) = some r := by rw [if_neg (show ¬ (false = true) by decide)] at H; exact H
      clear H
      have H := H1
      clear H1
      replace H := Option.bind_eq_some_iff.mp H
      obtain ⟨t552, A320, H⟩ := H
      replace H : ((laws_eqTrie.f kj13 t545 t552).bind fun t555 => (if t555 = true then (some true) else (some false))) = some r := H
      have A32 := Aside0.mk A320
      clear A320
      replace H := Option.bind_eq_some_iff.mp H
      obtain ⟨t555, A330, H⟩ := H
      replace H : (if t555 = true then (some true) else (some false)) = some r := H
      have A33 := Aside0.mk A330
      clear A330
      by_cases c34 : t555 = true
      ·
       subst c34
       have H1 : (some true) = some r := by rw [if_pos rfl] at H; exact H
       clear H
       have H := H1
       clear H1
       obtain rfl := Option.some.inj H
       try go_wp2
       have n0_ := Aside0.mk (Kd.R_drew HO_549000.out)
       have n1_ := Aside0.mk (blk_drew BK537.out)
       have n2_ := Aside0.mk (blk_drew BK548.out)
       have n3_ := Aside0.mk (below_drew1 HB.out)
       clear HO_549000
       clear BK537
       clear BK548
       clear HB
       have HO_549000 := n0_
       have BK537 := n1_
       have BK548 := n2_
       have HB := n3_
       clear n0_ n1_ n2_ n3_
       refine start_ (n := 5) (S := fun w' => w'.cell? ⟨gb548, 0, none⟩ = some (.slice Ao25 t545.length co25) ∧ w'.cell? ⟨gb537, 0, none⟩ = some (.slice A0_0 l0_0.length c0_0)) (ds := []) #[false, false, false, false, false] (by kernel_rfl) rfl rfl ⟨(blk_cell BK548.out 0).trans rfl, (blk_cell BK537.out 0).trans rfl⟩ (fun hHeld => ?_)
       generalize wc.drew = w35 at HO_549000 BK537 BK548 HB hHeld ⊢
       refine take_ (i := 0) (N := some 51) (v := ?_) (a' := ?_) #[true, false, false, false, false] rfl rfl (by kernel_rfl) (fun _ _ _ h => h) (Or.inl ⟨by rfl, ?_⟩) hHeld ?_ ?_
       rotate_left
       ·
        rintro w' ⟨s0, s1⟩
        go_simp
        with_reducible rfl
       rotate_left
       ·
        simp only [Act.put, List.setIfInBounds_toArray, List.set_cons_zero, List.set_cons_succ, i64_w, i32_w]
        rfl
       refine take_ (i := 1) (N := some 52) (v := ?_) (a' := ?_) #[true, true, false, false, false] rfl rfl (by kernel_rfl) (fun _ _ _ h => h) (Or.inl ⟨by rfl, ?_⟩) hHeld ?_ ?_
       rotate_left
       ·
        rintro w' ⟨s0, s1⟩
        go_simp
        with_reducible rfl
       rotate_left
       ·
        simp only [Act.put, List.setIfInBounds_toArray, List.set_cons_zero, List.set_cons_succ, i64_w, i32_w]
        rfl
       refine one_ (i := 2) (N := some 53) #[true, true, true, false, false] rfl rfl (by kernel_rfl) (by decide) (fun K hK => ?_)
       refine goes_ Tryd.func21 (by kernel_rfl) rfl #[.agg #[.slice A0_0 l0_0.length c0_0]] (by rfl) rfl rfl (by (try simp only [List.map_toArray, List.map_cons, List.map_nil]); first | done | rfl | (simp only [List.length_drop, List.length_take]; rfl)) ?_
       with_reducible refine (laws_toTrie.calls kj13 _ _ l0_0 t552 _ ?side1 ?side2 A32.out).mono ?_
       (case side1 => repeat (first | exact (Kd.C_below HR0_0.out HB.out) | (with_reducible refine Kd.C_alloc ?_ _) | (with_reducible refine Kd.C_drewN ?_ _) | (with_reducible refine Kd.C_drew ?_)))
       (case side2 => exact HC0_0.out)
       rintro e w36 ⟨v553, rfl, ho0, hb⟩
       refine ⟨_, rfl, ?_⟩
       have n0_ := Aside0.mk (Kd.R_elder' (by (with_reducible repeat (first | apply Kd.R_alloc | apply Kd.R_drewN | apply Kd.R_drew)); exact HO_549000.out) (Kd.R_base ho0) hb)
       have n1_ := Aside0.mk (Kd.R_lower (Kd.R_new' ho0 (Kd.R_lt (by (with_reducible repeat (first | apply Kd.R_alloc | apply Kd.R_drewN | apply Kd.R_drew)); exact HO_549000.out))) (below_size (by repeat (first | (with_reducible first | exact HB.out | apply below_alloc | apply pw_below_drewN | apply below_drew1 | refine below_set ?_ GE537.out | refine below_set ?_ GE548.out) | exact HB.out))))
       have n2_ := Aside0.mk (blk_below (g := gb537) (o := .cells #[.slice A0_0 l0_0.length c0_0] 40 (0, 0)) (by (with_reducible repeat (first | refine blk_drewN ?_ _ | refine blk_drew ?_ | refine blk_alloc ?_ _)); exact BK537.out) hb)
       have n3_ := Aside0.mk (blk_below (g := gb548) (o := .cells #[.slice Ao25 t545.length co25] 27 (0, 0)) (by (with_reducible repeat (first | refine blk_drewN ?_ _ | refine blk_drew ?_ | refine blk_alloc ?_ _)); exact BK548.out) hb)
       have n4_ := Aside0.mk (below_step (by repeat (first | (with_reducible first | exact HB.out | apply below_alloc | apply pw_below_drewN | apply below_drew1 | refine below_set ?_ GE537.out | refine below_set ?_ GE548.out) | exact HB.out)) hb)
       clear HO_549000
       clear BK537
       clear BK548
       clear HB
       have HO_549000 := n0_
       have HO554 := n1_
       have BK537 := n2_
       have BK548 := n3_
       have HB := n4_
       clear n0_ n1_ n2_ n3_ n4_
       (try clear hb)
       (try clear hb2)
       (try clear hk)
       (try clear hi)
       (try clear ho0)
       obtain ⟨Ao37, co37, eo37⟩ := Kd.R_slice HO554.out
       (first | subst eo37 | (injection eo37 with f1_ f2_ f3_; have f4_ := f1_.symm; have f5_ := f3_.symm; clear f1_ f2_ f3_; subst f4_; subst f5_))
       refine hK.out _ _ ⟨(blk_cell BK548.out 0).trans rfl, (blk_cell BK537.out 0).trans rfl⟩ (fun hHeld => ?_)
       clear hK K
       refine norm_ (a' := ?_) ?_ ?_
       rotate_left
       ·
        show Act.put _ (some 53) _ = _
        simp only [Act.put, List.setIfInBounds_toArray, List.set_cons_zero, List.set_cons_succ, i64_w, i32_w]
        rfl
       refine one_ (i := 3) (N := some 54) #[true, true, true, true, false] rfl rfl (by kernel_rfl) (by decide) (fun K hK => ?_)
       refine goes_ Tryd.func11 (by kernel_rfl) rfl #[.agg #[.slice Ao25 t545.length co25], .agg #[.slice Ao37 t552.length co37]] (by rfl) rfl rfl (by (try simp only [List.map_toArray, List.map_cons, List.map_nil]); first | done | rfl | (simp only [List.length_drop, List.length_take]; rfl)) ?_
       with_reducible refine (laws_eqTrie.calls kj13 _ _ t545 _ _ t552 true _ ?side1 ?side2 ?side3 ?side4 A33.out).mono ?_
       (case side1 => repeat (first | exact (Kd.R_reads' HO_549000.out).2.2 | (with_reducible refine Kd.C_alloc ?_ _) | (with_reducible refine Kd.C_drewN ?_ _) | (with_reducible refine Kd.C_drew ?_)))
       (case side2 => exact (Kd.R_reads' HO_549000.out).2.1)
       (case side3 => repeat (first | exact (Kd.R_reads' HO554.out).2.2 | (with_reducible refine Kd.C_alloc ?_ _) | (with_reducible refine Kd.C_drewN ?_ _) | (with_reducible refine Kd.C_drew ?_)))
       (case side4 => exact (Kd.R_reads' HO554.out).2.1)
       rintro e w38 ⟨rfl, hb⟩
       refine ⟨_, rfl, ?_⟩
       have n0_ := Aside0.mk (Kd.R_below (by (with_reducible repeat (first | apply Kd.R_alloc | apply Kd.R_drewN | apply Kd.R_drew)); exact HO_549000.out) hb)
       have n1_ := Aside0.mk (Kd.R_below (by (with_reducible repeat (first | apply Kd.R_alloc | apply Kd.R_drewN | apply Kd.R_drew)); exact HO554.out) hb)
       have n2_ := Aside0.mk (blk_below (g := gb537) (o := .cells #[.slice A0_0 l0_0.length c0_0] 40 (0, 0)) (by (with_reducible repeat (first | refine blk_drewN ?_ _ | refine blk_drew ?_ | refine blk_alloc ?_ _)); exact BK537.out) hb)
       have n3_ := Aside0.mk (blk_below (g := gb548) (o := .cells #[.slice Ao25 t545.length co25] 27 (0, 0)) (by (with_reducible repeat (first | refine blk_drewN ?_ _ | refine blk_drew ?_ | refine blk_alloc ?_ _)); exact BK548.out) hb)
       have n4_ := Aside0.mk (below_step (by repeat (first | (with_reducible first | exact HB.out | apply below_alloc | apply pw_below_drewN | apply below_drew1 | refine below_set ?_ GE537.out | refine below_set ?_ GE548.out) | exact HB.out)) hb)
       clear HO_549000
       clear HO554
       clear BK537
       clear BK548
       clear HB
       have HO_549000 := n0_
       have HO554 := n1_
       have BK537 := n2_
       have BK548 := n3_
       have HB := n4_
       clear n0_ n1_ n2_ n3_ n4_
       (try clear hb)
       (try clear hb2)
       (try clear hk)
       (try clear hi)
       refine hK.out _ _ ⟨(blk_cell BK548.out 0).trans rfl, (blk_cell BK537.out 0).trans rfl⟩ (fun hHeld => ?_)
       clear hK K
       refine norm_ (a' := ?_) ?_ ?_
       rotate_left
       ·
        show Act.put _ (some 54) _ = _
        simp only [Act.put, List.setIfInBounds_toArray, List.set_cons_zero, List.set_cons_succ, i64_w, i32_w]
        rfl
       refine pure_ (i := 4) (N := some 55) (v := ?_) (a' := ?_) #[true, true, true, true, true] rfl rfl (by kernel_rfl) (fun _ _ _ h => h) (Or.inl ⟨by rfl, ?_⟩) ?_ ?_
       rotate_left
       ·
        intro w'
        go_simp
        with_reducible rfl
       rotate_left
       ·
        simp only [Act.put, List.setIfInBounds_toArray, List.set_cons_zero, List.set_cons_succ, i64_w, i32_w]
        rfl
       refine done_ (by kernel_rfl) ?_
       try go_wp2
       go_ret
       exact ⟨by first | rfl | (simp [errW_none, errW_some] <;> rfl) | (simp [*, errW_none, errW_some] <;> rfl), by repeat (first | (with_reducible first | exact HB.out | apply below_alloc | apply pw_below_drewN | apply below_drew1 | refine below_set ?_ GE537.out | refine below_set ?_ GE548.out) | exact HB.out)⟩
      ·
       replace c34 := Bool.eq_false_iff.mpr c34
       subst c34
       have H1 : (some false) = some r := by rw [if_neg (show ¬ (false = true) by decide)] at H; exact H
       clear H
       have H := H1
       clear H1
       obtain rfl := Option.some.inj H
       try go_wp2
       have n0_ := Aside0.mk (Kd.R_drew HO_549000.out)
       have n1_ := Aside0.mk (blk_drew BK537.out)
       have n2_ := Aside0.mk (blk_drew BK548.out)
       have n3_ := Aside0.mk (below_drew1 HB.out)
       clear HO_549000
       clear BK537
       clear BK548
       clear HB
       have HO_549000 := n0_
       have BK537 := n1_
       have BK548 := n2_
       have HB := n3_
       clear n0_ n1_ n2_ n3_
       refine start_ (n := 5) (S := fun w' => w'.cell? ⟨gb548, 0, none⟩ = some (.slice Ao25 t545.length co25) ∧ w'.cell? ⟨gb537, 0, none⟩ = some (.slice A0_0 l0_0.length c0_0)) (ds := []) #[false, false, false, false, false] (by kernel_rfl) rfl rfl ⟨(blk_cell BK548.out 0).trans rfl, (blk_cell BK537.out 0).trans rfl⟩ (fun hHeld => ?_)
       generalize wc.drew = w39 at HO_549000 BK537 BK548 HB hHeld ⊢
       refine take_ (i := 0) (N := some 51) (v := ?_) (a' := ?_) #[true, false, false, false, false] rfl rfl (by kernel_rfl) (fun _ _ _ h => h) (Or.inl ⟨by rfl, ?_⟩) hHeld ?_ ?_
       rotate_left
       ·
        rintro w' ⟨s0, s1⟩
        go_simp
        with_reducible rfl
       rotate_left
       ·
        simp only [Act.put, List.setIfInBounds_toArray, List.set_cons_zero, List.set_cons_succ, i64_w, i32_w]
        rfl
       refine take_ (i := 1) (N := some 52) (v := ?_) (a' := ?_) #[true, true, false, false, false] rfl rfl (by kernel_rfl) (fun _ _ _ h => h) (Or.inl ⟨by rfl, ?_⟩) hHeld ?_ ?_
       rotate_left
       ·
        rintro w' ⟨s0, s1⟩
        go_simp
        with_reducible rfl
       rotate_left
       ·
        simp only [Act.put, List.setIfInBounds_toArray, List.set_cons_zero, List.set_cons_succ, i64_w, i32_w]
        rfl
       refine one_ (i := 2) (N := some 53) #[true, true, true, false, false] rfl rfl (by kernel_rfl) (by decide) (fun K hK => ?_)
       refine goes_ Tryd.func21 (by kernel_rfl) rfl #[.agg #[.slice A0_0 l0_0.length c0_0]] (by rfl) rfl rfl (by (try simp only [List.map_toArray, List.map_cons, List.map_nil]); first | done | rfl | (simp only [List.length_drop, List.length_take]; rfl)) ?_
       with_reducible refine (laws_toTrie.calls kj13 _ _ l0_0 t552 _ ?side1 ?side2 A32.out).mono ?_
       (case side1 => repeat (first | exact (Kd.C_below HR0_0.out HB.out) | (with_reducible refine Kd.C_alloc ?_ _) | (with_reducible refine Kd.C_drewN ?_ _) | (with_reducible refine Kd.C_drew ?_)))
       (case side2 => exact HC0_0.out)
       rintro e w40 ⟨v553, rfl, ho0, hb⟩
       refine ⟨_, rfl, ?_⟩
       have n0_ := Aside0.mk (Kd.R_elder' (by (with_reducible repeat (first | apply Kd.R_alloc | apply Kd.R_drewN | apply Kd.R_drew)); exact HO_549000.out) (Kd.R_base ho0) hb)
       have n1_ := Aside0.mk (Kd.R_lower (Kd.R_new' ho0 (Kd.R_lt (by (with_reducible repeat (first | apply Kd.R_alloc | apply Kd.R_drewN | apply Kd.R_drew)); exact HO_549000.out))) (below_size (by repeat (first | (with_reducible first | exact HB.out | apply below_alloc | apply pw_below_drewN | apply below_drew1 | refine below_set ?_ GE537.out | refine below_set ?_ GE548.out) | exact HB.out))))
       have n2_ := Aside0.mk (blk_below (g := gb537) (o := .cells #[.slice A0_0 l0_0.length c0_0] 40 (0, 0)) (by (with_reducible repeat (first | refine blk_drewN ?_ _ | refine blk_drew ?_ | refine blk_alloc ?_ _)); exact BK537.out) hb)
       have n3_ := Aside0.mk (blk_below (g := gb548) (o := .cells #[.slice Ao25 t545.length co25] 27 (0, 0)) (by (with_reducible repeat (first | refine blk_drewN ?_ _ | refine blk_drew ?_ | refine blk_alloc ?_ _)); exact BK548.out) hb)
       have n4_ := Aside0.mk (below_step (by repeat (first | (with_reducible first | exact HB.out | apply below_alloc | apply pw_below_drewN | apply below_drew1 | refine below_set ?_ GE537.out | refine below_set ?_ GE548.out) | exact HB.out)) hb)
       clear HO_549000
       clear BK537
       clear BK548
       clear HB
       have HO_549000 := n0_
       have HO554 := n1_
       have BK537 := n2_
       have BK548 := n3_
       have HB := n4_
       clear n0_ n1_ n2_ n3_ n4_
       (try clear hb)
       (try clear hb2)
       (try clear hk)
       (try clear hi)
       (try clear ho0)
       obtain ⟨Ao41, co41, eo41⟩ := Kd.R_slice HO554.out
       (first | subst eo41 | (injection eo41 with f1_ f2_ f3_; have f4_ := f1_.symm; have f5_ := f3_.symm; clear f1_ f2_ f3_; subst f4_; subst f5_))
       refine hK.out _ _ ⟨(blk_cell BK548.out 0).trans rfl, (blk_cell BK537.out 0).trans rfl⟩ (fun hHeld => ?_)
       clear hK K
       refine norm_ (a' := ?_) ?_ ?_
       rotate_left
       ·
        show Act.put _ (some 53) _ = _
        simp only [Act.put, List.setIfInBounds_toArray, List.set_cons_zero, List.set_cons_succ, i64_w, i32_w]
        rfl
       refine one_ (i := 3) (N := some 54) #[true, true, true, true, false] rfl rfl (by kernel_rfl) (by decide) (fun K hK => ?_)
       refine goes_ Tryd.func11 (by kernel_rfl) rfl #[.agg #[.slice Ao25 t545.length co25], .agg #[.slice Ao41 t552.length co41]] (by rfl) rfl rfl (by (try simp only [List.map_toArray, List.map_cons, List.map_nil]); first | done | rfl | (simp only [List.length_drop, List.length_take]; rfl)) ?_
       with_reducible refine (laws_eqTrie.calls kj13 _ _ t545 _ _ t552 false _ ?side1 ?side2 ?side3 ?side4 A33.out).mono ?_
       (case side1 => repeat (first | exact (Kd.R_reads' HO_549000.out).2.2 | (with_reducible refine Kd.C_alloc ?_ _) | (with_reducible refine Kd.C_drewN ?_ _) | (with_reducible refine Kd.C_drew ?_)))
       (case side2 => exact (Kd.R_reads' HO_549000.out).2.1)
       (case side3 => repeat (first | exact (Kd.R_reads' HO554.out).2.2 | (with_reducible refine Kd.C_alloc ?_ _) | (with_reducible refine Kd.C_drewN ?_ _) | (with_reducible refine Kd.C_drew ?_)))
       (case side4 => exact (Kd.R_reads' HO554.out).2.1)
       rintro e w42 ⟨rfl, hb⟩
       refine ⟨_, rfl, ?_⟩
       have n0_ := Aside0.mk (Kd.R_below (by (with_reducible repeat (first | apply Kd.R_alloc | apply Kd.R_drewN | apply Kd.R_drew)); exact HO_549000.out) hb)
       have n1_ := Aside0.mk (Kd.R_below (by (with_reducible repeat (first | apply Kd.R_alloc | apply Kd.R_drewN | apply Kd.R_drew)); exact HO554.out) hb)
       have n2_ := Aside0.mk (blk_below (g := gb537) (o := .cells #[.slice A0_0 l0_0.length c0_0] 40 (0, 0)) (by (with_reducible repeat (first | refine blk_drewN ?_ _ | refine blk_drew ?_ | refine blk_alloc ?_ _)); exact BK537.out) hb)
       have n3_ := Aside0.mk (blk_below (g := gb548) (o := .cells #[.slice Ao25 t545.length co25] 27 (0, 0)) (by (with_reducible repeat (first | refine blk_drewN ?_ _ | refine blk_drew ?_ | refine blk_alloc ?_ _)); exact BK548.out) hb)
       have n4_ := Aside0.mk (below_step (by repeat (first | (with_reducible first | exact HB.out | apply below_alloc | apply pw_below_drewN | apply below_drew1 | refine below_set ?_ GE537.out | refine below_set ?_ GE548.out) | exact HB.out)) hb)
       clear HO_549000
       clear HO554
       clear BK537
       clear BK548
       clear HB
       have HO_549000 := n0_
       have HO554 := n1_
       have BK537 := n2_
       have BK548 := n3_
       have HB := n4_
       clear n0_ n1_ n2_ n3_ n4_
       (try clear hb)
       (try clear hb2)
       (try clear hk)
       (try clear hi)
       refine hK.out _ _ ⟨(blk_cell BK548.out 0).trans rfl, (blk_cell BK537.out 0).trans rfl⟩ (fun hHeld => ?_)
       clear hK K
       refine norm_ (a' := ?_) ?_ ?_
       rotate_left
       ·
        show Act.put _ (some 54) _ = _
        simp only [Act.put, List.setIfInBounds_toArray, List.set_cons_zero, List.set_cons_succ, i64_w, i32_w]
        rfl
       refine pure_ (i := 4) (N := some 55) (v := ?_) (a' := ?_) #[true, true, true, true, true] rfl rfl (by kernel_rfl) (fun _ _ _ h => h) (Or.inl ⟨by rfl, ?_⟩) ?_ ?_
       rotate_left
       ·
        intro w'
        go_simp
        with_reducible rfl
       rotate_left
       ·
        simp only [Act.put, List.setIfInBounds_toArray, List.set_cons_zero, List.set_cons_succ, i64_w, i32_w]
        rfl
       refine done_ (by kernel_rfl) ?_
       try go_wp2
       go_ret
       exact ⟨by first | rfl | (simp [errW_none, errW_some] <;> rfl) | (simp [*, errW_none, errW_some] <;> rfl), by repeat (first | (with_reducible first | exact HB.out | apply below_alloc | apply pw_below_drewN | apply below_drew1 | refine below_set ?_ GE537.out | refine below_set ?_ GE548.out) | exact HB.out)⟩
def laws_FnExactNearestWord.Pure : Prop := ∀ (l0_0 : List S85) (a1 : ByteArray), l0_0.length ≤ 9223372036854775807 → a1.size ≤ 140737488351232 → ∃ k, laws_FnExactNearestWord.f k l0_0 a1 = some true
theorem laws_FnExactNearestWord.walk (P : laws_FnExactNearestWord.Pure) (w : World) (A0 : Option Addr) (c0 : Nat) (l0_0 : List S85) (hr0 : Kd.C k85 w A0 l0_0.length l0_0) (hc0 : l0_0.length ≤ c0) (a1 : ByteArray) (w1 : a1.size ≤ 140737488351232) :
  Calls Tryd.prog 6 #[.agg #[.slice A0 l0_0.length c0], .string a1] w fun e w' => e = .returned (.bool true) ∧ Below w.heap.size w w' := by
 obtain ⟨k, h⟩ := P l0_0 a1 hr0.2.1 w1
 refine (laws_FnExactNearestWord.calls k _ _ l0_0 a1 true w hr0 hc0 h).mono ?_
 rintro e w' ⟨rfl, hd⟩
 exact ⟨rfl, hd⟩
end Go.Proofs.YtpgobnhklnglhaaDoor.P
namespace Go.Proofs.YtpgobnhklnglhaaDoor.L
open Go.RowKit Go.Proofs.YtpgobnhklnglhaaDoor.P Go.Proofs.YtpgobnhklnglhaaDoor.M Go.Proofs.YtpgobnhklnglhaaDoorW.PrintWords Go.Proofs.YtpgobnhklnglhaaDoorW.PrintLast Go.Proofs.YtpgobnhklnglhaaDoorW.PrintMore
def toN (l : List S85) : List Nd := l.map fun x => ⟨x.f0, x.f1, x.f2⟩
theorem toN_length (l : List S85) : (toN l).length = l.length := by simp [toN]
theorem szTrie_eq (l : List S85) (h : l.length ≤ 9223372036854775807) : laws_szTrie.f l 1048576 = some (if l.length ≤ 1048576 then 1048576 - (l.length : Int) else -1) := by
 unfold laws_szTrie.f laws_szNodeS.f
 rw [wrap64_id (by omega) (by omega)]
 by_cases hs : l.length ≤ 1048576
 ·
  rw [if_neg (by omega), if_pos hs, Option.bind_some, if_neg (by omega)]
 ·
  rw [if_pos (by omega), if_neg hs, Option.bind_some, if_pos (by omega)]
theorem toNodeS_loop (l : List S85) (hl : l.length ≤ 1048576) : ∀ (d i : Nat), i + d = l.length → Ev (fun k => laws_toNodeS.l0 k l ((toN l).take i ++ List.replicate ((toN l).length - i) z70) (i : Int)) (toN l) := by
 intro d
 induction d with
 | zero =>
  intro i h
  rw [List.take_of_length_le (by rw [toN_length]; omega), show (toN l).length - i = 0 from by rw [toN_length]; omega, List.replicate_zero, List.append_nil]
  exact Ev.step (fun k => laws_toNodeS.l0.eq_2 ..) (Ev.ifF (by omega) (Ev.now _))
 | succ d ih =>
  intro i h
  have hi : i < l.length := by omega
  have hi2 : i < (toN l).length := by rw [toN_length]; exact hi
  have hlen : ((toN l).take i ++ List.replicate ((toN l).length - i) z70).length = l.length := by
   rw [List.length_append, List.length_take, List.length_replicate, toN_length]; omega
  refine Ev.step (fun k => laws_toNodeS.l0.eq_2 ..) (Ev.ifT (by omega) (Ev.ifT (by omega) ?_))
  unfold laws_toNode.f
  refine Ev.some_bind (Ev.ifT (by rw [hlen]; omega) ?_)
  have hx : (⟨(rd_T85 l (i : Int)).f0, (rd_T85 l (i : Int)).f1, (rd_T85 l (i : Int)).f2⟩ : Nd) = (toN l).getD i z70 := by
   unfold rd_T85 toN
   rw [Int.toNat_natCast, getD_lt _ hi, getD_lt _ (by simpa using hi), List.getElem_map]
  rw [hx, Int.toNat_natCast, fill_set _ _ _ hi2, wrap64_succ i (by omega)]
  exact ih (i + 1) (by omega)
theorem toTrie_ev (l : List S85) (hl : l.length ≤ 1048576) : Ev (fun k => laws_toTrie.f k l) (toN l) := by
 unfold laws_toTrie.f laws_toNodeS.f
 refine Ev.bind (f := fun k t => some t) (Ev.ifT (by omega) (Ev.ifT (by omega) ?_)) (Ev.now _)
 have := toNodeS_loop l hl l.length 0 (by omega)
 rw [List.take_zero, List.nil_append, toN_length, Nat.sub_zero] at this
 exact this
theorem trie_both (N : List Nd) : (IsTr N ∧ Ev (fun k => spec_l2Trie.f k N) true ∧ Ev (fun k => impl_isTrie.f k N) true) ∨ (¬ IsTr N ∧ Ev (fun k => spec_l2Trie.f k N) false ∧ Ev (fun k => impl_isTrie.f k N) false) := by
 obtain ⟨b1, c1, e1⟩ := l2Trie_ev N
 obtain ⟨b2, c2, e2⟩ := isTrie_ev N
 by_cases h : IsTr N
 ·
  obtain rfl := c1.2 h
  obtain rfl := c2.2 h
  exact .inl ⟨h, e1, e2⟩
 ·
  cases b1 with
  | true => exact absurd (c1.1 rfl) h
  | false =>
   cases b2 with
   | true => exact absurd (c2.1 rfl) h
   | false => exact .inr ⟨h, e1, e2⟩
theorem kept_both (N : List Nd) (w : Txt) (hw : w.length ≤ 1048576) : (∃ ws, OkW ws ∧ wordL w = true ∧ N = trN (preL ws) ws ∧ Ev (fun k => spec_l2Trie.f k N) true ∧ Ev (fun k => spec_l2Word.f k (B w)) true ∧ Ev (fun k => impl_areKept.f k N (B w)) true) ∨ ((Ev (fun k => spec_l2Trie.f k N) false ∨ (Ev (fun k => spec_l2Trie.f k N) true ∧ Ev (fun k => spec_l2Word.f k (B w)) false)) ∧ Ev (fun k => impl_areKept.f k N (B w)) false) := by
 have hlw := l2Word_ev w (by omega)
 unfold impl_areKept.f
 rcases trie_both N with ⟨⟨ws, h, rfl⟩, e1, e2⟩ | ⟨_, e1, e2⟩
 ·
  cases hwd : wordL w with
  | true =>
   rw [hwd] at hlw
   exact .inl ⟨ws, h, rfl, rfl, e1, hlw, Ev.bind e2 (Ev.ifT rfl (by rw [isWord_eq, hwd]; exact Ev.some_bind (Ev.now _)))⟩
  | false =>
   rw [hwd] at hlw
   exact .inr ⟨.inr ⟨e1, hlw⟩, Ev.bind e2 (Ev.ifT rfl (by rw [isWord_eq, hwd]; exact Ev.some_bind (Ev.now _)))⟩
 ·
  exact .inr ⟨.inl e1, Ev.bind e2 (Ev.ifF Bool.false_ne_true (Ev.now _))⟩
end Go.Proofs.YtpgobnhklnglhaaDoor.L
namespace Go.Proofs.YtpgobnhklnglhaaDoor.M
def nxR (i : Nat) (c : UInt8) (b : Txt) (last : List Nat) : Nat → List Nat
 | 0 => [i + 1]
 | j + 1 => nxR i c b last j ++ [min (last.getD j 0 + if c = b.getD j 0 then 0 else 1) (min (last.getD (j + 1) 0 + 1) ((nxR i c b last j).getD j 0 + 1))]
theorem nxR_length (i : Nat) (c : UInt8) (b : Txt) (last : List Nat) : ∀ j, (nxR i c b last j).length = j + 1
 | 0 => rfl
 | j + 1 => by rw [nxR, List.length_append, nxR_length i c b last j]; rfl
def rowR (a b : Txt) : Nat → List Nat
 | 0 => List.range (b.length + 1)
 | i + 1 => nxR i (a.getD i 0) b (rowR a b i) b.length
theorem rowR_length (a b : Txt) : ∀ i, (rowR a b i).length = b.length + 1
 | 0 => by rw [rowR, List.length_range]
 | i + 1 => by rw [rowR, nxR_length]
theorem nxR_bd (i : Nat) (c : UInt8) (b : Txt) (last : List Nat) (M : Nat) (hi : i ≤ M) (hl : ∀ j, last.getD j 0 ≤ M) : ∀ j m, (nxR i c b last j).getD m 0 ≤ M + 1
 | 0, m => by
  cases m with
  | zero => show i + 1 ≤ _; omega
  | succ m => show 0 ≤ _; omega
 | j + 1, m => by
  have ih := nxR_bd i c b last M hi hl j
  rw [nxR]
  by_cases h : m < j + 1
  ·
   rw [List.getD_eq_getElem?_getD, List.getElem?_append_left (by rw [nxR_length]; exact h), ← List.getD_eq_getElem?_getD]; exact ih m
  ·
   rw [List.getD_eq_getElem?_getD, List.getElem?_append_right (by rw [nxR_length]; omega), nxR_length]
   by_cases h2 : m = j + 1
   ·
    subst h2
    rw [Nat.sub_self]
    have h3 := hl j
    show min _ _ ≤ _
    refine Nat.le_trans (Nat.min_le_left _ _) ?_
    split <;> omega
   ·
    rw [List.getElem?_eq_none (by simp; omega)]
    show 0 ≤ _; omega
theorem rowR_bd (a b : Txt) : ∀ i m, (rowR a b i).getD m 0 ≤ b.length + i
 | 0, m => by
  rw [rowR, List.getD_eq_getElem?_getD]
  by_cases h : m < b.length + 1
  ·
   rw [List.getElem?_range h]; show m ≤ _; omega
  ·
   rw [List.getElem?_eq_none (by rw [List.length_range]; omega)]; show 0 ≤ _; omega
 | i + 1, m => by
  have := nxR_bd i (a.getD i 0) b (rowR a b i) (b.length + i) (by omega) (rowR_bd a b i) b.length m
  rw [rowR]; omega
def distL (a b : Txt) : Nat := (rowR a b a.length).getD b.length 0
theorem distL_bd (a b : Txt) : distL a b ≤ b.length + a.length := rowR_bd a b a.length b.length
end Go.Proofs.YtpgobnhklnglhaaDoor.M
namespace Go.Proofs.YtpgobnhklnglhaaDoor.L
open Go.RowKit Go.Proofs.YtpgobnhklnglhaaDoor.P Go.Proofs.YtpgobnhklnglhaaDoor.M Go.Proofs.YtpgobnhklnglhaaDoorW.PrintWords Go.Proofs.YtpgobnhklnglhaaDoorW.PrintLast Go.Proofs.YtpgobnhklnglhaaDoorW.PrintMore
def nI (l : List Nat) : List Int := l.map fun x : Nat => (x : Int)
theorem nI_length (l : List Nat) : (nI l).length = l.length := by simp [nI]
theorem nI_append (l m : List Nat) : nI (l ++ m) = nI l ++ nI m := by simp [nI]
theorem rd_nI (l : List Nat) (n : Nat) : rd (nI l) (n : Int) = ((l.getD n 0 : Nat) : Int) := by
 rw [rd_nat]
 unfold nI
 rw [List.getD_eq_getElem?_getD, List.getD_eq_getElem?_getD, List.getElem?_map]
 cases l[n]? <;> rfl
theorem bt_same (a b : Txt) (n m : Nat) (h : n < a.length) (h2 : m < b.length) : bt (B a) (n : Int) = bt (B b) (m : Int) ↔ a.getD n 0 = b.getD m 0 := by
 rw [bt_B a n h, bt_B b m h2]
 constructor
 ·
  intro e
  exact UInt8.toNat_inj.1 (by omega)
 ·
  intro e
  rw [e]
theorem wrapI {n : Nat} (h : n ≤ 9223372036854775807) : wrap64 (n : Int) = (n : Int) := wrap64_id (by omega) (by omega)
theorem wrapS {n : Nat} (h : n ≤ 1000000) : wrap64 ((n : Int) + 1) = ((n + 1 : Nat) : Int) := wrap64_succ n (by omega)
theorem wrapP {n : Nat} (h : n ≤ 1000000) : wrap64 (((n + 1 : Nat) : Int) - 1) = (n : Int) := by rw [wrap64_id (by omega) (by omega)]; omega
theorem mn_nat (x y : Nat) : mn (x : Int) (y : Int) = ((min x y : Nat) : Int) := by unfold mn; omega
theorem imp_cols (a b : Txt) (hb : b.length ≤ 1000) (i : Nat) (hi : i < a.length) (hi2 : i ≤ 1000) (last : List Nat) (hl : last.length = b.length + 1) (hbd : ∀ j, last.getD j 0 ≤ 10000) (r : Int) (n24 : Int)
  (hr : Ev (fun k => impl_distance.l1 k (B a) (B b) (nI (nxR i (a.getD i 0) b last b.length)) n24 ((i + 1 : Nat) : Int)) r) : ∀ (d j : Nat), j + d = b.length → Ev (fun k => impl_distance.l2 k (B a) (B b) (nI last) (i : Int) (nI (nxR i (a.getD i 0) b last j)) n24 (i : Int) (b.length : Int) (j : Int)) r := by
 intro d
 induction d with
 | zero =>
  intro j q
  obtain rfl : j = b.length := by omega
  refine Ev.step (fun k => impl_distance.l2.eq_2 ..) (Ev.ifF (by omega) ?_)
  rw [wrapS (by omega)]
  exact hr
 | succ d ih =>
  intro j q
  have hx := nxR_length i (a.getD i 0) b last j
  have hB := nxR_bd i (a.getD i 0) b last 10000 (by omega) hbd j j
  have h1 := hbd j
  have h2 := hbd (j + 1)
  have hn := ih (j + 1) (by omega)
  rw [nxR, nI_append] at hn
  refine Ev.step (fun k => impl_distance.l2.eq_2 ..) (Ev.ifT (by omega) (Ev.ifT (by omega) (Ev.ifT (by rw [nI_length]; omega) (Ev.ifT (by omega) (Ev.ifT (by rw [size_B]; omega) (Ev.ifT (by rw [size_B]; omega) ?_))))))
  rw [wrapS (n := j) (by omega)]
  by_cases e : a.getD i 0 = b.getD j 0
  ·
   refine Ev.ifT ((bt_same a b i j hi (by omega)).2 e) (Ev.ifT (by omega) (Ev.ifT (by rw [nI_length]; omega) (Ev.ifT (by rw [nI_length]; omega) (Ev.ifT (by rw [nI_length]; omega) ?_))))
   rw [rd_nI, rd_nI, rd_nI, wrapS (by omega), wrapS (by omega), mn_nat, mn_nat]
   rw [if_pos e, Nat.add_zero] at hn
   rw [Nat.min_assoc]
   exact hn
  ·
   refine Ev.ifF (fun q => e ((bt_same a b i j hi (by omega)).1 q)) (Ev.ifT (by omega) (Ev.ifT (by rw [nI_length]; omega) (Ev.ifT (by rw [nI_length]; omega) (Ev.ifT (by rw [nI_length]; omega) ?_))))
   rw [rd_nI, rd_nI, rd_nI, wrapS (by omega), wrapS (by omega), wrapS (by omega), mn_nat, mn_nat]
   rw [if_neg e] at hn
   rw [Nat.min_assoc]
   exact hn
theorem imp_rows (a b : Txt) (ha : a.length ≤ 1000) (hb : b.length ≤ 1000) : ∀ (d i : Nat), i + d = a.length → Ev (fun k => impl_distance.l1 k (B a) (B b) (nI (rowR a b i)) (a.length : Int) (i : Int)) (distL a b : Int) := by
 intro d
 induction d with
 | zero =>
  intro i q
  obtain rfl : i = a.length := by omega
  refine Ev.step (fun k => impl_distance.l1.eq_2 ..) (Ev.ifF (by omega) (Ev.ifT (by omega) (Ev.ifT (by rw [size_B, nI_length, rowR_length]; omega) ?_)))
  rw [size_B, rd_nI]
  exact Ev.now _
 | succ d ih =>
  intro i q
  have hn := ih (i + 1) (by omega)
  rw [rowR] at hn
  refine Ev.step (fun k => impl_distance.l1.eq_2 ..) (Ev.ifT (by omega) ?_)
  rw [size_B, wrapS (by omega)]
  exact imp_cols a b hb i (by omega) (by omega) (rowR a b i) (rowR_length a b i) (fun j => Nat.le_trans (rowR_bd a b i j) (by omega)) _ _ hn b.length 0 (by omega)
theorem range_I (n : Nat) : nI (List.range (n + 1)) = nI (List.range n) ++ [(n : Int)] := by rw [List.range_succ, nI_append]; rfl
theorem distance_ev' (a b : Txt) (ha : a.length ≤ 1000) (hb : b.length ≤ 1000) : Ev (fun k => impl_distance.f k (B a) (B b)) (distL a b : Int) := by
 have h0 := imp_rows a b ha hb a.length 0 (by omega)
 have loop : ∀ (d j : Nat), j + d = b.length + 1 → Ev (fun k => impl_distance.l0 k (B a) (B b) (nI (List.range j)) ((b.length + 1 : Nat) : Int) (j : Int)) (distL a b : Int) := by
  intro d
  induction d with
  | zero =>
   intro j q
   obtain rfl : j = b.length + 1 := by omega
   refine Ev.step (fun k => impl_distance.l0.eq_2 ..) (Ev.ifF (by omega) ?_)
   rw [size_B]
   exact h0
  | succ d ih =>
   intro j q
   have := ih (j + 1) (by omega)
   rw [range_I] at this
   refine Ev.step (fun k => impl_distance.l0.eq_2 ..) (Ev.ifT (by omega) (Ev.ifT (by rw [nI_length, List.length_range]; omega) ?_))
   rw [wrapS (by omega)]
   exact this
 unfold impl_distance.f
 rw [size_B, wrapS (by omega)]
 exact loop (b.length + 1) 0 (by omega)
theorem distance_ev (a b : Txt) (ha : a.length ≤ 12) (hb : b.length ≤ 12) : Ev (fun k => impl_distance.f k (B a) (B b)) (distL a b : Int) := distance_ev' a b (by omega) (by omega)
theorem least_nat (x y : Nat) : spec_l1Least.f (x : Int) (y : Int) = some ((min x y : Nat) : Int) := by
 unfold spec_l1Least.f
 by_cases h : (x : Int) < (y : Int)
 ·
  rw [if_pos h]; congr 1; omega
 ·
  rw [if_neg h]; congr 1; omega
theorem min3 (p q s : Nat) : min p (1 + min q s) = min p (min (q + 1) (s + 1)) := by omega
theorem spe_cols (a b : Txt) (hb : b.length ≤ 1000) (i : Nat) (hi : i < a.length) (hi2 : i ≤ 1000) (last : List Nat) (hl : last.length = b.length + 1) (hbd : ∀ j, last.getD j 0 ≤ 10000) (r : Int)
  (hr : Ev (fun k => spec_l6Distance.l1 k (B a) (B b) (nI (nxR i (a.getD i 0) b last b.length)) ((i + 1 + 1 : Nat) : Int)) r) : ∀ (d j : Nat), j + d = b.length → Ev (fun k => spec_l6Distance.l2 k (B a) (B b) (nI last) ((i + 1 : Nat) : Int) (nI (nxR i (a.getD i 0) b last j)) ((j + 1 : Nat) : Int)) r := by
 intro d
 induction d with
 | zero =>
  intro j q
  obtain rfl : j = b.length := by omega
  refine Ev.step (fun k => spec_l6Distance.l2.eq_2 ..) (Ev.ifF (by rw [size_B]; omega) ?_)
  rw [wrapS (by omega)]
  exact hr
 | succ d ih =>
  intro j q
  have hx := nxR_length i (a.getD i 0) b last j
  have hB := nxR_bd i (a.getD i 0) b last 10000 (by omega) hbd j j
  have h1 := hbd j
  have h2 := hbd (j + 1)
  have hn := ih (j + 1) (by omega)
  rw [nxR, nI_append] at hn
  refine Ev.step (fun k => spec_l6Distance.l2.eq_2 ..) (Ev.ifT (by rw [size_B]; omega) ?_)
  rw [wrapP (n := j) (by omega), wrapP (n := i) (by omega)]
  refine Ev.ifT (by omega) (Ev.ifT (by rw [nI_length]; omega) (Ev.ifT (by omega) (Ev.ifT (by rw [size_B]; omega) (Ev.ifT (by rw [size_B]; omega) ?_))))
  by_cases e : a.getD i 0 = b.getD j 0
  ·
   refine Ev.ifT ((bt_same a b i j hi (by omega)).2 e) (Ev.ifT (by omega) (Ev.ifT (by rw [nI_length]; omega) (Ev.ifT (by rw [nI_length]; omega) ?_)))
   rw [rd_nI, rd_nI, rd_nI, least_nat]
   refine Ev.some_bind ?_
   rw [← Int.natCast_one, ← Int.natCast_add, wrapI (by omega), least_nat]
   refine Ev.some_bind (Ev.ifT (by rw [nI_length]; omega) ?_)
   rw [if_pos e, Nat.add_zero] at hn
   rw [Int.natCast_one, wrapS (by omega), min3]
   exact hn
  ·
   refine Ev.ifF (fun q => e ((bt_same a b i j hi (by omega)).1 q)) (Ev.ifT (by omega) (Ev.ifT (by rw [nI_length]; omega) (Ev.ifT (by rw [nI_length]; omega) ?_)))
   rw [rd_nI, rd_nI, rd_nI, least_nat]
   refine Ev.some_bind ?_
   rw [wrapS (n := last.getD j 0) (by omega), ← Int.natCast_one, ← Int.natCast_add, wrapI (by omega), least_nat]
   refine Ev.some_bind (Ev.ifT (by rw [nI_length]; omega) ?_)
   rw [if_neg e] at hn
   rw [Int.natCast_one, wrapS (by omega), min3]
   exact hn
theorem spe_rows (a b : Txt) (ha : a.length ≤ 1000) (hb : b.length ≤ 1000) : ∀ (d i : Nat), i + d = a.length → Ev (fun k => spec_l6Distance.l1 k (B a) (B b) (nI (rowR a b i)) ((i + 1 : Nat) : Int)) (distL a b : Int) := by
 intro d
 induction d with
 | zero =>
  intro i q
  obtain rfl : i = a.length := by omega
  refine Ev.step (fun k => spec_l6Distance.l1.eq_2 ..) (Ev.ifF (by rw [size_B]; omega) (Ev.ifT (by omega) (Ev.ifT (by rw [size_B, nI_length, rowR_length]; omega) ?_)))
  rw [size_B, rd_nI]
  exact Ev.now _
 | succ d ih =>
  intro i q
  have hn := ih (i + 1) (by omega)
  rw [rowR] at hn
  refine Ev.step (fun k => spec_l6Distance.l1.eq_2 ..) (Ev.ifT (by rw [size_B]; omega) ?_)
  exact spe_cols a b hb i (by omega) (by omega) (rowR a b i) (rowR_length a b i) (fun j => Nat.le_trans (rowR_bd a b i j) (by omega)) _ hn b.length 0 (by omega)
theorem l6Distance_ev (a b : Txt) (ha : a.length ≤ 12) (hb : b.length ≤ 12) : Ev (fun k => spec_l6Distance.f k (B a) (B b)) (distL a b : Int) := by
 have h0 := spe_rows a b (by omega) (by omega) a.length 0 (by omega)
 have loop : ∀ (d j : Nat), j + d = b.length + 1 → Ev (fun k => spec_l6Distance.l0 k (B a) (B b) (nI (List.range j)) (j : Int)) (distL a b : Int) := by
  intro d
  induction d with
  | zero =>
   intro j q
   obtain rfl : j = b.length + 1 := by omega
   exact Ev.step (fun k => spec_l6Distance.l0.eq_2 ..) (Ev.ifF (by rw [size_B]; omega) h0)
  | succ d ih =>
   intro j q
   have := ih (j + 1) (by omega)
   rw [range_I] at this
   refine Ev.step (fun k => spec_l6Distance.l0.eq_2 ..) (Ev.ifT (by rw [size_B]; omega) (Ev.ifT (by rw [nI_length, List.length_range]; omega) ?_))
   rw [wrapS (by omega)]
   exact this
 exact loop (b.length + 1) 0 (by omega)
end Go.Proofs.YtpgobnhklnglhaaDoor.L
namespace Go.Proofs.YtpgobnhklnglhaaDoor.Pure
open Go.RowKit Go.Proofs.YtpgobnhklnglhaaDoor.P Go.Proofs.YtpgobnhklnglhaaDoor.M Go.Proofs.YtpgobnhklnglhaaDoorW.PrintWords Go.Proofs.YtpgobnhklnglhaaDoorW.PrintLast Go.Proofs.YtpgobnhklnglhaaDoorW.PrintMore
open Go.Proofs.YtpgobnhklnglhaaDoor.L
namespace NearestWord
def nearer (w b o : Txt) : Txt := if distL o w < distL b w then o else b
theorem near_le {w : Txt} : ∀ (l : List Txt) (b : Txt), b.length ≤ 12 → (∀ x ∈ l, x.length ≤ 12) → (l.foldl (nearer w) b).length ≤ 12
 | [], b, h, _ => h
 | x :: l, b, h, hl => by
  rw [List.foldl_cons]
  refine near_le l _ ?_ fun y hy => hl y (List.mem_cons_of_mem _ hy)
  unfold nearer
  split
  ·
   exact hl x (by simp)
  ·
   exact h
theorem impl_loop {ws : List Txt} (h : OkW ws) (w : Txt) (hw : w.length ≤ 12) : ∀ (d i : Nat) (b : Txt), i + d = ws.length → b.length ≤ 12 → Ev (fun k => impl_NearestWord.l0 k (B w) (B b) (ws.map B) (ws.length : Int) (i : Int)) (B ((ws.drop i).foldl (nearer w) b), (distL ((ws.drop i).foldl (nearer w) b) w : Int), true) := by
 have h40 := h.len
 intro d
 induction d with
 | zero =>
  intro i b q hb
  rw [List.drop_of_length_le (by omega)]
  exact Ev.step (fun k => impl_NearestWord.l0.eq_2 ..) (Ev.ifF (by omega) (Ev.bind (distance_ev b w hb hw) (Ev.now _)))
 | succ d ih =>
  intro i b q hb
  have hi : i < ws.length := by omega
  have hwi := h.le _ (getD_mem hi)
  rw [drop_cons_getD [] hi, List.foldl_cons]
  refine Ev.step (fun k => impl_NearestWord.l0.eq_2 ..) (Ev.ifT (by omega) (Ev.ifT (by omega) (Ev.ifT (by rw [List.length_map]; omega) ?_)))
  rw [rdB ws i hi, wrap64_succ i (by omega)]
  refine Ev.bind (distance_ev _ w hwi hw) (Ev.bind (distance_ev b w hb hw) ?_)
  by_cases hd : distL (ws.getD i []) w < distL b w
  ·
   rw [show nearer w b (ws.getD i []) = ws.getD i [] from if_pos hd]
   exact Ev.ifT (by omega) (ih (i + 1) _ (by omega) hwi)
  ·
   rw [show nearer w b (ws.getD i []) = b from if_neg hd]
   exact Ev.ifF (by omega) (ih (i + 1) _ (by omega) hb)
theorem spec_loop {ws : List Txt} (h : OkW ws) (w : Txt) (hw : w.length ≤ 12) : ∀ (d i : Nat) (b : Txt), i + d = ws.length → Ev (fun k => spec_NearestWord.l0 k (B w) (B b) (distL b w : Int) (ws.map B) (i : Int)) (B ((ws.drop i).foldl (nearer w) b), (distL ((ws.drop i).foldl (nearer w) b) w : Int), true) := by
 have h40 := h.len
 intro d
 induction d with
 | zero =>
  intro i b q
  rw [List.drop_of_length_le (by omega), List.foldl_nil]
  refine Ev.step (fun k => spec_NearestWord.l0.eq_2 ..) (Ev.ifF (by rw [List.length_map]; omega) ?_)
  have hm : spec_l1Most.f (distL b w : Int) 0 = some (distL b w : Int) := by
   unfold spec_l1Most.f
   by_cases h : (distL b w : Int) > 0
   ·
    rw [if_pos h]
   ·
    rw [if_neg h]; congr 1; omega
  rw [hm, decide_eq_true (show (distL b w : Int) ≥ 0 by omega)]
  exact Ev.now _
 | succ d ih =>
  intro i b q
  have hi : i < ws.length := by omega
  have hwi := h.le _ (getD_mem hi)
  rw [drop_cons_getD [] hi, List.foldl_cons]
  refine Ev.step (fun k => spec_NearestWord.l0.eq_2 ..) (Ev.ifT (by rw [List.length_map]; omega) (Ev.ifT (by omega) ?_))
  rw [rdB ws i hi, wrap64_succ i (by omega)]
  refine Ev.bind (l6Distance_ev _ w hwi hw) (Ev.ifF (by omega) ?_)
  by_cases hd : distL (ws.getD i []) w < distL b w
  ·
   rw [show nearer w b (ws.getD i []) = ws.getD i [] from if_pos hd]
   exact Ev.ifT (by omega) (ih (i + 1) _ (by omega))
  ·
   rw [show nearer w b (ws.getD i []) = b from if_neg hd]
   exact Ev.ifF (by omega) (ih (i + 1) _ (by omega))
theorem both (N : List Nd) (w : Txt) (hw : w.length ≤ 1048576) : ∃ r : ByteArray × Int × Bool, Ev (fun k => spec_NearestWord.f k N (B w)) r ∧ Ev (fun k => impl_NearestWord.f k N (B w)) r := by
 have s0 : ∀ N, Ev (fun k => spec_NearestWord.j0 k (B w) true N) ((⟨#[]⟩ : ByteArray), 0, false) := fun N => Ev.step (fun k => spec_NearestWord.j0.eq_2 ..) (Ev.ifT rfl (Ev.now _))
 have i0 : ∀ N, Ev (fun k => impl_NearestWord.j0 k (B w) true N) ((⟨#[]⟩ : ByteArray), 0, false) := fun N => Ev.step (fun k => impl_NearestWord.j0.eq_2 ..) (Ev.ifT rfl (Ev.now _))
 unfold spec_NearestWord.f impl_NearestWord.f
 rcases kept_both N w hw with ⟨ws, h, hwd, rfl, e1, e2, e3⟩ | ⟨e1, e3⟩
 ·
  have h12 := (wordL_iff.1 hwd).2
  have h40 := h.len
  rcases Nat.eq_zero_or_pos ws.length with h0 | h0
  ·
   refine ⟨((⟨#[]⟩ : ByteArray), 0, false), Ev.bind e1 (Ev.ifT rfl (Ev.bind e2 ?_)), Ev.bind e3 (Ev.ifT rfl (Ev.bind (words_ev h) ?_))⟩
   ·
    refine Ev.step (fun k => spec_NearestWord.j0.eq_2 ..) (Ev.ifF (by simp) (Ev.bind (l2Words_ev h) ?_))
    refine Ev.step (fun k => spec_NearestWord.l0.eq_2 ..) (Ev.ifF (by rw [List.length_map]; omega) ?_)
    exact Ev.now _
   ·
    rw [List.length_map, show ((ws.length : Int) == 0) = true from by rw [h0]; rfl]
    exact i0 _
  ·
   refine ⟨(B ((ws.drop 1).foldl (nearer w) (ws.getD 0 [])), (distL ((ws.drop 1).foldl (nearer w) (ws.getD 0 [])) w : Int), true), Ev.bind e1 (Ev.ifT rfl (Ev.bind e2 ?_)), Ev.bind e3 (Ev.ifT rfl (Ev.bind (words_ev h) ?_))⟩
   ·
    refine Ev.step (fun k => spec_NearestWord.j0.eq_2 ..) (Ev.ifF (by simp) (Ev.bind (l2Words_ev h) ?_))
    refine Ev.step (fun k => spec_NearestWord.l0.eq_2 ..) (Ev.ifT (by rw [List.length_map]; omega) (Ev.ifT (by omega) ?_))
    have hr := rdB ws 0 h0
    rw [show ((0 : Nat) : Int) = 0 from rfl] at hr
    rw [hr]
    refine Ev.bind (l6Distance_ev _ w (h.le _ (getD_mem h0)) h12) (Ev.ifT (by omega) ?_)
    have hl := spec_loop h w h12 (ws.length - 1) 1 (ws.getD 0 []) (by omega)
    rw [show wrap64 ((0 : Int) + 1) = ((1 : Nat) : Int) from wrap64_succ 0 (by omega)]
    exact hl
   ·
    rw [List.length_map, show ((ws.length : Int) == 0) = false from beq_eq_false_iff_ne.mpr (by omega)]
    refine Ev.step (fun k => impl_NearestWord.j0.eq_2 ..) (Ev.ifF (by simp) (Ev.bind (words_ev h) (Ev.ifT (by rw [List.length_map]; omega) (Ev.bind (words_ev h) ?_))))
    have hr := rdB ws 0 h0
    rw [show ((0 : Nat) : Int) = 0 from rfl] at hr
    rw [hr, List.length_map]
    have hl := impl_loop h w h12 ws.length 0 (ws.getD 0 []) (by omega) (h.le _ (getD_mem h0))
    rw [drop_cons_getD [] h0, List.foldl_cons, show nearer w (ws.getD 0 []) (ws.getD 0 []) = ws.getD 0 [] from if_neg (by omega)] at hl
    exact hl
 ·
  refine ⟨((⟨#[]⟩ : ByteArray), 0, false), ?_, Ev.bind e3 (Ev.ifF Bool.false_ne_true (i0 _))⟩
  rcases e1 with e1 | ⟨e1, e2⟩
  ·
   exact Ev.bind e1 (Ev.ifF Bool.false_ne_true (s0 _))
  ·
   exact Ev.bind e1 (Ev.ifT rfl (Ev.bind e2 (s0 _)))
end NearestWord
theorem FnExactNearestWord : laws_FnExactNearestWord.Pure := by
 intro l a hl ha
 obtain ⟨w, rfl⟩ := exB a
 by_cases hb : ((B w).size : Int) > 1048576
 ·
  exact ⟨0, by unfold laws_FnExactNearestWord.f; rw [if_pos hb]⟩
 rw [size_B] at hb
 by_cases hs : l.length ≤ 1048576
 ·
  obtain ⟨r, h1, h2⟩ := NearestWord.both (toN l) w (by omega)
  refine Ev.rounds ?_
  unfold laws_FnExactNearestWord.f
  refine Ev.ifF (by rw [size_B]; exact hb) ?_
  rw [szTrie_eq l hl, if_pos hs]
  refine Ev.some_bind (Ev.ifF (by omega) (Ev.bind (toTrie_ev l hs) (Ev.bind h1 (Ev.bind (toTrie_ev l hs) (Ev.bind h2 (Ev.ifT rfl (Ev.ifT rfl ?_)))))))
  refine Ev.step (fun k => laws_FnExactNearestWord.j0.eq_2 ..) (Ev.ifF (by simp) (Ev.bind (toTrie_ev l hs) (Ev.bind (eqTrie_ev _ (by rw [toN_length]; omega)) (Ev.ifT rfl (Ev.now _)))))
 ·
  exact ⟨0, by unfold laws_FnExactNearestWord.f; rw [if_neg (by rw [size_B]; exact hb), szTrie_eq l hl, if_neg hs]; rfl⟩
end Go.Proofs.YtpgobnhklnglhaaDoor.Pure
namespace Go.Proofs.YtpgobnhklnglhaaDoor.fnExactNearestWord
open Go.ChangeShapes Go.WideShapes Go.ChangeAt Go.RowKit Go.Proofs.YtpgobnhklnglhaaDoor.P
open Go.ChangeMaps (open_string shut_string)
def laidL : List (String × DataW Unit) := [("unicode/utf8.acceptRanges", Rows.laid_unicode_utf8_acceptRanges), ("unicode/utf8.first", Rows.laid_unicode_utf8_first)]
theorem own : ownKnob Tryd.prog.godebug = none := by kernel_rfl
theorem laidOut : laidOutB Tryd.prog = true := by kernel_rfl
theorem lifted (os : Os) (started : os.Started) (H : Type) (enc : TypeId × Value → H) :
    ReturnsInHanded {} Tryd.checked os 6 .any (fun w args => (Rows.fnExactNearestWordSpec.pre enc Tryd.prog Tryd.f6 [] false w args ∧ laidMetH Tryd.prog laidL w) ∧ sizedMet enc Tryd.prog Tryd.f6 (OpenSpec.ofChange Rows.fnExactNearestWordSpec) false w args) (Rows.fnExactNearestWordSpec.post enc Tryd.prog Tryd.f6 false true false false) := by
  refine returnsInHanded_of_change_and (C := Tryd.checked) (X := fun w _ => laidMetH Tryd.prog laidL w) (fun _ _ _ hh h => h.of_heap hh) own started (by kernel_rfl) Tryd.func6
    (ChangeSpec.witness_shaped (enc := enc) (C := Tryd.checked) (os := os) (X := fun w _ => laidMetH Tryd.prog laidL w) false (World.laidAll Tryd.prog os laidL) #[.agg #[.slice none 0 0], .string ByteArray.empty] 8 (World.laidAll_os _ _ _) (World.shaped_of_ZipB (by kernel_rfl) (by kernel_rfl)) (by kernel_rfl) (by kernel_rfl) (by kernel_rfl)
      (by rw [MakeChecks.laidMetH_plain _ _ _ (by kernel_rfl)]; exact laidMet_laidAll _ (by kernel_rfl) (by kernel_rfl))) ?_
  intro W base args ds gs before hval0 hW hcnd hsz0 hL_ _
  have hsz : (DataW.weightsEach Tryd.prog (Tryd.f6.params.toList ++ Rows.fnExactNearestWordSpec.plain.varTypes Tryd.prog) (ds ++ gs)).all (· ≤ reachBytes) = true := hsz0
  have hval : ∀ (j : Nat) t v, Tryd.f6.params[j]? = some t → args[j]? = some v → Value.okWide Tryd.prog W .any base t v := hval0
  have hW' := hW
  obtain ⟨p, q, hA0, hV, rfl, hfz, hnd⟩ := hW
  have hA : DataW.TrodAll enc Tryd.prog W 0 (fun _ => true) true Tryd.f6.params.toList args.toList ds p := hA0
  rw [Tryd.params6] at hA hval hsz
  obtain ⟨v0, vs0, d0, ds0, p0, q0, hargs, rfl, rfl, h0, r0⟩ := trodAll_cons hA
  obtain ⟨v1, vs1, d1, ds1, p1, q1, rfl, rfl, rfl, h1, r1⟩ := trodAll_cons r0
  obtain ⟨rfl, rfl, rfl⟩ := trodAll_nil r1
  obtain rfl : args = #[v0, v1] := by cases args; simp_all
  obtain ⟨rfl, rfl⟩ := trodVars_none hV
  have k0 := h0
  have lt0 : ∀ x ∈ p0, x.block < W.heap.size := by obtain ⟨m, hm⟩ := k0; exact DataW.trod_lt m _ _ _ hm
  obtain ⟨A0, c0, l0, ev0, hc0, hr0⟩ := OT.trie (hval 0 40 v0 rfl rfl) h0
  subst ev0
  obtain ⟨a1, rfl, rfl, rfl, y1⟩ := open_string Tryd.underlying9 (hval 1 9 v1 rfl rfl) h1
  have w1 : a1.size ≤ 140737488351232 := by
    have z := sized_string hsz (j := 1) (t := 9) rfl rfl
    rw [Array.length_toList] at z
    exact z
  clear hA0 hval0 hsz0 hsz
  refine (laws_FnExactNearestWord.walk Pure.FnExactNearestWord W A0 c0 l0 hr0 hc0 a1 w1).mono fun e W' ⟨he, bel⟩ => ?_
  subst he
  exact ⟨_, rfl, _, _, _, [], _, [], hW', trodAll_mk1 (shut_bool Tryd.underlying4 _), (trodAll_cons_mk (Below.trod laidOut (by kernel_rfl) (of_decide_eq_true (by kernel_rfl)) k0 bel lt0) (trodAll_cons_mk (shut_string Tryd.underlying9 y1) trodAll_mk0)), rfl, bel.frame _, fun h => by cases h⟩
theorem over : Rows.fnExactNearestWordRow.holds Tryd.pinned (OpenSpec.ofChange Rows.fnExactNearestWordSpec) :=
  OpenClaim.holds_of_wide 6 Tryd.f6 rfl rfl rfl rfl rfl rfl rfl ⟨rfl, rfl, rfl, rfl, rfl⟩ rfl rfl rfl rfl rfl (by kernel_rfl) Tryd.func6 (by kernel_rfl)
    (of_decide_eq_true (by kernel_rfl)) (by unfold Func.isWrapper; first | (rw [if_pos (by decide +kernel)]; kernel_rfl) | (rw [if_neg (by decide +kernel)]; exact ⟨rfl, rfl⟩))
    (fun os started H enc _ => lifted os started H enc)
theorem proved : Rows.FnExactNearestWordSaid := over
end Go.Proofs.YtpgobnhklnglhaaDoor.fnExactNearestWord
namespace Go.Proofs.YtpgobnhklnglhaaDoor
theorem fnExactNearestWord_holds : Rows.FnExactNearestWordSaid := fnExactNearestWord.proved
theorem fnExactNearestWord_card : Rows.FnExactNearestWordCardSaid :=
  Claim7.holds_tied_plain_at .later [] [.data, .pinned] true (true, "9ae60ee42558e505d51ea8aff4f405cbdc85461b0477ae2c9f3e080b28545796") false
    fnExactNearestWord_holds (fun _ h => by cases h) (by kernel_rfl) (fun _ h => by cases h) fnExactNearestWord_row_tie rfl ⟨rfl, rfl⟩ (by kernel_rfl) rfl
    (fun f fn hf hfn => by
      obtain rfl : f = 6 := Option.some.inj ((show Tryd.prog.funcNamed "loop.example/g01243/laws.FnExactNearestWord" = some 6 by kernel_rfl).symm.trans hf) |>.symm
      obtain rfl : fn = Tryd.f6 := (Option.some.inj (Tryd.func6.symm.trans hfn)).symm
      exact ⟨by kernel_rfl, fun j t ht => by
        rw [Tryd.params6] at ht
        have hm : t ∈ [40, 9] := by simpa using Array.mem_of_getElem? ht
        have hall : ([40, 9].all fun u => !Tryd.prog.wantsStandIn u) = true := by kernel_rfl
        exact (show Tryd.prog.wantsStandIn t = false by simpa using List.all_eq_true.1 hall t hm)⟩)
    (by kernel_rfl)
end Go.Proofs.YtpgobnhklnglhaaDoor
