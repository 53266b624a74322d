/-
  Part 4 of the proof that FnSubstrings returns true for every input: the functions that it reaches, each with its contract, and the law.
  Conditions: those of the given statement, no others.
-/
import Derived.Test.YtblcdgnihmcdpaaGreatDoorCFnSubstringsW0
import Derived.Test.YtblcdgnihmcdpaaGreatDoorCFnSubstrings0
import Derived.Test.YtblcdgnihmcdpaaGreatDoorCFnSubstrings2
import Derived.Test.YtblcdgnihmcdpaaGreatDoorCFnSubstrings1
set_option linter.unusedVariables false
set_option linter.unusedSimpArgs false
set_option maxHeartbeats 8000000
set_option maxRecDepth 100000
namespace Go.Proofs.YtblcdgnihmcdpaaGreatDoor.P
open Go.RowKit Go.Proofs.YtblcdgnihmcdpaaGreatDoorW.PrintWords Go.Proofs.YtblcdgnihmcdpaaGreatDoorW.PrintLast Go.Proofs.YtblcdgnihmcdpaaGreatDoorW.PrintMore
attribute [local go_sem] max2_int min2_int max_two min_two max_three min_three max_four min_four
mutual
def sF56.l0 : Nat → List ByteArray → List ByteArray → Int → Option ((List (S46)))
 | 0, _, _, _ => none
 | k + 1, x0, x3, x4 => if x4 < (x0.length : Int) then (sF56.l1 k x0 x3 x4 1) else (sF56.l2 k x0 x3 0 (([] : List (S46))))
def sF56.l1 : Nat → List ByteArray → List ByteArray → Int → Int → Option ((List (S46)))
 | 0, _, _, _, _ => none
 | k + 1, x0, x3, x4, x5 => if 0 ≤ x4 then (if x4 < (x0.length : Int) then (if x5 ≤ ((rdOf ByteArray.empty x0 x4).size : Int) then (if 0 ≤ x5 then ((sF59.f x3 ((rdOf ByteArray.empty x0 x4).extract 0 (x5 : Int).toNat)).bind fun t403 => (sF56.l1 k x0 t403 x4 (wrap64 (x5 + 1)))) else (none)) else (sF56.l0 k x0 x3 (wrap64 (x4 + 1)))) else (none)) else (none)
def sF56.l2 : Nat → List ByteArray → List ByteArray → Int → List (S46) → Option ((List (S46)))
 | 0, _, _, _, _ => none
 | k + 1, x0, x3, x7, x410000 => if x7 < (x3.length : Int) then (if 0 ≤ x7 then ((sF55.f k x0 (rdOf ByteArray.empty x3 x7)).bind fun t411 => (if x7 > 0 then (if 0 ≤ (wrap64 (((rdOf ByteArray.empty x3 x7).size : Int) - 1)) then (if (wrap64 (((rdOf ByteArray.empty x3 x7).size : Int) - 1)) < ((rdOf ByteArray.empty x3 x7).size : Int) then (if (wrap64 (((rdOf ByteArray.empty x3 x7).size : Int) - 1)) ≤ ((rdOf ByteArray.empty x3 x7).size : Int) then ((sF58.f k x3 ((rdOf ByteArray.empty x3 x7).extract 0 ((wrap64 (((rdOf ByteArray.empty x3 x7).size : Int) - 1)) : Int).toNat)).bind fun t413 => (if x410000.length < 5864062014805 then (sF56.l2 k x0 x3 (wrap64 (x7 + 1)) (x410000 ++ [(⟨((bt (rdOf ByteArray.empty x3 x7) (wrap64 (((rdOf ByteArray.empty x3 x7).size : Int) - 1))) - 97) % 256, t413, t411⟩ : S46)])) else (none))) else (none)) else (none)) else (none)) else (if x410000.length < 5864062014805 then (sF56.l2 k x0 x3 (wrap64 (x7 + 1)) (x410000 ++ [(⟨(-1), (-1), t411⟩ : S46)])) else (none)))) else (none)) else (some x410000)
end
def sF56.f (k : Nat) (l0 : List ByteArray) : Option ((List (S46))) := sF56.l0 k l0 (([(⟨#[]⟩ : ByteArray)] : List ByteArray)) 0
theorem sF56.mono_l : ∀ k, (∀ y0 y1 y2, LeO (sF56.l0 k y0 y1 y2) (sF56.l0 (k + 1) y0 y1 y2)) ∧ (∀ y0 y1 y2 y3, LeO (sF56.l1 k y0 y1 y2 y3) (sF56.l1 (k + 1) y0 y1 y2 y3)) ∧ (∀ y0 y1 y2 y3, LeO (sF56.l2 k y0 y1 y2 y3) (sF56.l2 (k + 1) y0 y1 y2 y3))
 | 0 => ⟨fun _ _ _ r h => by simp [sF56.l0] at h, fun _ _ _ _ r h => by simp [sF56.l1] at h, fun _ _ _ _ r h => by simp [sF56.l2] at h⟩
 | k + 1 => by
  obtain ⟨ih0, ih1, ih2⟩ := sF56.mono_l k
  refine ⟨?_, ?_, ?_⟩
  ·
   intro y0 y1 y2
   unfold sF56.l0
   repeat' with_reducible first | exact ih0 _ _ _ | exact ih1 _ _ _ _ | exact ih2 _ _ _ _ | exact sF55.mono _ _ _ | exact sF58.mono _ _ _ | exact LeO.refl _ | exact LeO.none _ | refine LeO.ite ?_ ?_ | refine LeO.bind ?_ (fun _ => ?_)
  ·
   intro y0 y1 y2 y3
   unfold sF56.l1
   repeat' with_reducible first | exact ih0 _ _ _ | exact ih1 _ _ _ _ | exact ih2 _ _ _ _ | exact sF55.mono _ _ _ | exact sF58.mono _ _ _ | exact LeO.refl _ | exact LeO.none _ | refine LeO.ite ?_ ?_ | refine LeO.bind ?_ (fun _ => ?_)
  intro y0 y1 y2 y3
  unfold sF56.l2
  repeat' with_reducible first | exact ih0 _ _ _ | exact ih1 _ _ _ _ | exact ih2 _ _ _ _ | exact sF55.mono _ _ _ | exact sF58.mono _ _ _ | exact LeO.refl _ | exact LeO.none _ | refine LeO.ite ?_ ?_ | refine LeO.bind ?_ (fun _ => ?_)
theorem sF56.mono : ∀ a0 k, LeO (sF56.f k a0) (sF56.f (k + 1) a0) := by
 intro a0 k
 obtain ⟨ih0, ih1, ih2⟩ := sF56.mono_l k
 unfold sF56.f
 repeat' with_reducible first | exact ih0 _ _ _ | exact ih1 _ _ _ _ | exact ih2 _ _ _ _ | exact sF55.mono _ _ _ | exact sF58.mono _ _ _ | exact LeO.refl _ | exact LeO.none _ | refine LeO.ite ?_ ?_ | refine LeO.bind ?_ (fun _ => ?_)
theorem sF56.calls (k : Nat) (A0 : Option Addr) (c0 : Nat) (l0 : List ByteArray) (r : List (S46)) (w : World) (hr0 : Kd.C Kd.string w A0 l0.length l0) (hc0 : l0.length ≤ c0) (h : sF56.f k l0 = some r) :
  Calls Tryz.prog 62 #[.slice A0 l0.length c0] w fun e w' => ∃ v0_ : Value, e = .returned (.agg #[v0_]) ∧ Kd.R k46 46 w' w.heap.size (fun _ => True) v0_ r ∧ Below w.heap.size w w' := by
 have hu41 := Tryz.underlying41
 have hu46 := Tryz.underlying46
 have HR0 := Aside0.mk hr0
 have HC0 := Aside0.mk hc0
 clear hr0 hc0
 have HB := Aside0.mk (Below.refl w.heap.size w)
 have H : (sF56.l0 k l0 (([(⟨#[]⟩ : ByteArray)] : List ByteArray)) 0) = some r := h
 clear h
 obtain ⟨y398, hy398⟩ : ∃ y_ : List ByteArray, y_ = (([(⟨#[]⟩ : ByteArray)] : List ByteArray)) := ⟨_, rfl⟩
 replace H : (sF56.l0 k l0 y398 0) = some r := by (try rw [hy398]); first | with_reducible exact H | with_reducible exact oS_ H | exact H
 have Ny398 := Aside0.mk hy398
 clear hy398
 have H' := Aside0.mk H
 clear H
 go_enter Tryz.func62, Tryz.ntmps62
 go_wp2_with (first | ((with_reducible refine gate_dst (N := 2) rfl ?_); refine box_event ?hg (N := 2) ?hd (cs := #[.slice none 0 0]) (t := 41) ?hr ?_; (case hd => rfl); (case hg => rfl); (case hr => first | (go_simp; done) | (go_simp; rfl)); intro gb397 hg w2 hbox hb; have n0_ := Aside0.mk (below_step (by repeat (first | (with_reducible first | exact HB.out | apply below_alloc | apply pw_below_drewN | apply below_drew1) | exact HB.out)) hb); have n1_ := Aside0.mk (hbox); have n2_ := Aside0.mk ((by rw [hg]; exact (below_size (by repeat (first | (with_reducible first | exact HB.out | apply below_alloc | apply pw_below_drewN | apply below_drew1) | exact HB.out))) : w.heap.size ≤ gb397)); have n3_ := Aside0.mk ((by rw [hg]; exact (below_size (by repeat (first | (with_reducible first | exact HB.out | apply below_alloc | apply pw_below_drewN | apply below_drew1) | exact HB.out))) : w.heap.size ≤ gb397)); clear HB; have HB := n0_; have BK397 := n1_; have GW397 := n2_; have GW397 := n3_; clear n0_ n1_ n2_ n3_; clear hb hbox hg) | ((with_reducible refine gate_dst (N := 10) rfl ?_); refine Kd.R_lit Kd.string _ 9 ?hg (N := 10) ?hd (xs := ([(⟨#[]⟩ : ByteArray)] : List ByteArray)) (inner := [.string (⟨#[]⟩ : ByteArray)]) (ok := fun _ => True) (okp := fun _ => True) ?hr ?hp (fun _ hk => hk) trivial (Below.refl _ _) (Nat.le_refl _) (by simp) ?_; (case hd => rfl); (case hg => rfl); (case hr => first | (go_simp; done) | (go_simp; rfl)); (case hp => exact (Reps.one (show Kd.M Kd.string _ _ _ (⟨#[]⟩ : ByteArray) [.string (⟨#[]⟩ : ByteArray)] from rfl) (Reps.none _ _))); intro v399 w3 ho4 hb hg_ hnew_; clear hg_ hnew_; (first | rw [← Ny398.out] at ho4 | (simp only [Int.reduceToNat] at ho4; rw [← Ny398.out] at ho4)); have n0_ := Aside0.mk (Kd.R_lower ho4 (below_size (by repeat (first | (with_reducible first | exact HB.out | apply below_alloc | apply pw_below_drewN | apply below_drew1 | refine below_set ?_ GW397.out) | exact HB.out)))); have n1_ := Aside0.mk (blk_below (g := gb397) (o := .cells #[.slice none 0 0] 41 (0, 0)) (by (with_reducible repeat (first | refine blk_drewN ?_ _ | refine blk_drew ?_ | refine blk_alloc ?_ _)); exact BK397.out) hb); have n2_ := Aside0.mk (below_step (by repeat (first | (with_reducible first | exact HB.out | apply below_alloc | apply pw_below_drewN | apply below_drew1 | refine below_set ?_ GW397.out) | exact HB.out)) hb); clear BK397; clear HB; have HO400 := n0_; have BK397 := n1_; have HB := n2_; clear n0_ n1_ n2_; clear hb ho4))
 go_loopg [3, 4] k (fun kq v3 v4 w' => ∃ (x3_1 : List ByteArray) (x4_1 : Int), v4 = .int .i64 x4_1 ∧ Aside0 (sF56.l0 kq l0 x3_1 x4_1 = some r) ∧ Aside0 (kq ≤ k) ∧ Aside0 (Kd.R Kd.string 9 w' w.heap.size (fun _ => True) v3 x3_1) ∧ Aside0 (w'.heap[gb397]? = some (.cells #[(.slice none 0 0)] 41 (0, 0))) ∧ Aside0 (Below w.heap.size w w'))
 case atStart => exact ⟨(y398), (0), (by first | rfl | (simp; done) | (simp [*]; done)), H', ⟨Nat.le_refl _⟩, ⟨by (with_reducible repeat (first | apply Kd.R_alloc | apply Kd.R_drewN | apply Kd.R_drew)); exact HO400.out⟩, ⟨by (with_reducible repeat (first | refine blk_drewN ?_ _ | refine blk_drew ?_ | refine blk_alloc ?_ _)); exact BK397.out⟩, ⟨by repeat (first | (with_reducible first | exact HB.out | apply below_alloc | apply pw_below_drewN | apply below_drew1 | refine below_set ?_ GW397.out) | exact HB.out)⟩⟩
 clear H'
 try clear p2
 obtain ⟨x3_1, x4_1, rfl, HA, HK1, HO_3, BK397, HB⟩ := hrel
 cases gk with
 | zero => exact absurd HA.out (by simp [sF56.l0])
 | succ k1 =>
  have H := HA.out
  clear HA
  simp only [sF56.l0] at H
  by_cases c5 : x4_1 < (l0.length : Int)
  ·
   rw [if_pos c5] at H
   have c5b0 : decide (x4_1 < (l0.length : Int)) = true := dT_ c5
   clear c5
   have H' := Aside0.mk H
   clear H
   go_wp2
   go_loopg [3, 5] k1 (fun kq v3 v5 w' => ∃ (x3_2 : List ByteArray) (x5_2 : Int), v5 = .int .i64 x5_2 ∧ Aside0 (sF56.l1 kq l0 x3_2 x4_1 x5_2 = some r) ∧ Aside0 (kq ≤ k1) ∧ Aside0 (Kd.R Kd.string 9 w' w.heap.size (fun _ => True) v3 x3_2) ∧ Aside0 (w'.heap[gb397]? = some (.cells #[(.slice none 0 0)] 41 (0, 0))) ∧ Aside0 (Below w.heap.size w w'))
   case atStart => exact ⟨(x3_1), (1), (by first | rfl | (simp; done) | (simp [*]; done)), H', ⟨Nat.le_refl _⟩, ⟨by (with_reducible repeat (first | apply Kd.R_alloc | apply Kd.R_drewN | apply Kd.R_drew)); exact HO_3.out⟩, ⟨by (with_reducible repeat (first | refine blk_drewN ?_ _ | refine blk_drew ?_ | refine blk_alloc ?_ _)); exact BK397.out⟩, ⟨by repeat (first | (with_reducible first | exact HB.out | apply below_alloc | apply pw_below_drewN | apply below_drew1 | refine below_set ?_ GW397.out) | exact HB.out)⟩⟩
   clear H'
   try clear p2
   try clear c5
   try clear c5b0
   try clear p2
   obtain ⟨x3_2, x5_2, rfl, HA, HK2, HO_3, BK397, HB⟩ := hrel
   cases gk with
   | zero => exact absurd HA.out (by simp [sF56.l1])
   | succ k2 =>
    have H := HA.out
    clear HA
    simp only [sF56.l1] at H
    by_cases c6 : 0 ≤ x4_1
    rotate_left
    ·
     rw [if_neg c6] at H
     exact absurd H (by simp)
    rw [if_pos c6] at H
    have c6b0 : decide (0 ≤ x4_1) = true := dT_ c6
    clear c6
    by_cases c7 : x4_1 < (l0.length : Int)
    rotate_left
    ·
     rw [if_neg c7] at H
     exact absurd H (by simp)
    rw [if_pos c7] at H
    have c7b0 : decide (x4_1 < (l0.length : Int)) = true := dT_ c7
    clear c7
    by_cases c8 : x5_2 ≤ ((rdOf ByteArray.empty l0 x4_1).size : Int)
    rotate_left
    ·
     rw [if_neg c8] at H
     have c8b0 : decide (x5_2 ≤ ((rdOf ByteArray.empty l0 x4_1).size : Int)) = false := dF_ c8
     clear c8
     have H' := Aside0.mk H
     clear H
     have p401 : 0 ≤ (x4_1 : Int) := oD_ (by first | (with_reducible assumption) | assumption)
     have q401 : x4_1 < (l0.length : Int) := oD_ (by first | (with_reducible assumption) | assumption)
     obtain ⟨ad401, e401, hx401_0⟩ := Kd.at_string HR0.out x4_1 p401 q401
     cases e401
     replace hx401_0 := (HB.out.cell (World.block_lt_of_cell? w _ hx401_0)).trans hx401_0
     replace p401 := eq_true p401
     replace q401 := eq_true q401
     go_wp2
     go_roundg k2
     case measure => have := HK1.out; have := HK2.out; omega
     case rel => exact ⟨(x3_2), (wrap64 (x4_1 + 1)), (by first | rfl | (simp; done) | (simp [*]; done)), H', ⟨by have := HK1.out; have := HK2.out; omega⟩, ⟨by (with_reducible repeat (first | apply Kd.R_alloc | apply Kd.R_drewN | apply Kd.R_drew)); exact HO_3.out⟩, ⟨by (with_reducible repeat (first | refine blk_drewN ?_ _ | refine blk_drew ?_ | refine blk_alloc ?_ _)); exact BK397.out⟩, ⟨by repeat (first | (with_reducible first | exact HB.out | apply below_alloc | apply pw_below_drewN | apply below_drew1 | refine below_set ?_ GW397.out) | exact HB.out)⟩⟩
    rw [if_pos c8] at H
    have c8b0 : decide (x5_2 ≤ ((rdOf ByteArray.empty l0 x4_1).size : Int)) = true := dT_ c8
    clear c8
    by_cases c9 : 0 ≤ x5_2
    rotate_left
    ·
     rw [if_neg c9] at H
     exact absurd H (by simp)
    rw [if_pos c9] at H
    have c9b0 := eq_true c9
    have c9b1 : decide (0 ≤ x5_2) = true := dT_ c9
    clear c9
    have c10b0 := eq_true (oD_ (by first | (with_reducible assumption) | assumption) : x5_2 ≤ ((rdOf ByteArray.empty l0 x4_1).size : Int))
    replace H := Option.bind_eq_some_iff.mp H
    obtain ⟨t403, A110, H⟩ := H
    replace H : (sF56.l1 k2 l0 t403 x4_1 (wrap64 (x5_2 + 1))) = some r := H
    have A11 := Aside0.mk A110
    clear A110
    have H' := Aside0.mk H
    clear H
    have p401 : 0 ≤ (x4_1 : Int) := oD_ (by first | (with_reducible assumption) | assumption)
    have q401 : x4_1 < (l0.length : Int) := oD_ (by first | (with_reducible assumption) | assumption)
    obtain ⟨ad401, e401, hx401_0⟩ := Kd.at_string HR0.out x4_1 p401 q401
    cases e401
    replace hx401_0 := (HB.out.cell (World.block_lt_of_cell? w _ hx401_0)).trans hx401_0
    replace p401 := eq_true p401
    replace q401 := eq_true q401
    have p402 : 0 ≤ (x4_1 : Int) := oD_ (by first | (with_reducible assumption) | assumption)
    have q402 : x4_1 < (l0.length : Int) := oD_ (by first | (with_reducible assumption) | assumption)
    obtain ⟨ad402, e402, hx402_0⟩ := Kd.at_string HR0.out x4_1 p402 q402
    obtain rfl : ad401 = ad402 := (by injection e402)
    replace hx402_0 := (HB.out.cell (World.block_lt_of_cell? w _ hx402_0)).trans hx402_0
    replace p402 := eq_true p402
    replace q402 := eq_true q402
    obtain ⟨Ao12, co12, eo12⟩ := Kd.R_slice HO_3.out
    subst eo12
    go_wp2_with (first | ((with_reducible refine gate_callee (f := 61) rfl ?_); refine goesL_ (some 33) rfl rfl Tryz.func61 (by kernel_rfl) rfl #[.slice Ao12 x3_2.length co12, .string ((rdOf ByteArray.empty l0 x4_1).extract 0 (x5_2 : Int).toNat)] rfl (by (try simp only [List.map_toArray, List.map_cons, List.map_nil]); first | done | rfl | (simp only [List.length_drop, List.length_take]; rfl)) ?_; (with_reducible refine (sF59.calls (fun k_ => some k_ = (.slice Ao12 x3_2.length co12 : Value).ownBlock) (.slice Ao12 x3_2.length co12) x3_2 ((rdOf ByteArray.empty l0 x4_1).extract 0 (x5_2 : Int).toNat) t403 w _ ?side1 ?side2 A11.out).mono ?_); (case side1 => repeat (first | (with_reducible first | exact HB.out | apply below_alloc | apply pw_below_drewN | apply below_drew1 | refine below_set ?_ GW397.out) | exact HB.out)); (case side2 => exact Kd.R_tight rfl HO_3.out); rintro e w13 ⟨v404, rfl, ho0, hb, hkp⟩; refine ⟨_, rfl, ?_⟩; have n0_ := Aside0.mk (blk_kept (by (with_reducible repeat (first | refine blk_drewN ?_ _ | refine blk_drew ?_ | refine blk_alloc ?_ _)); exact BK397.out) hkp (fun hs_ => (fun e_ => (Kd.R_ne HO_3.out BK397.out (by decide)) e_) hs_)); have n1_ := Aside0.mk (Kd.R_mono (ok' := fun k_ => True) ho0 (fun k_ hk_ => trivial)); have n2_ := Aside0.mk (hb); clear BK397; clear HB; clear HO_3; have BK397 := n0_; have HO405 := n1_; have HB := n2_; clear n0_ n1_ n2_; (try clear hb); (try clear hkp); (try clear ho0)))
    go_roundg k2
    case measure => have := HK1.out; have := HK2.out; omega
    case rel => exact ⟨(t403), (wrap64 (x5_2 + 1)), (by first | rfl | (simp; done) | (simp [*]; done)), H', ⟨by have := HK1.out; have := HK2.out; omega⟩, ⟨by (with_reducible repeat (first | apply Kd.R_alloc | apply Kd.R_drewN | apply Kd.R_drew)); exact HO405.out⟩, ⟨by (with_reducible repeat (first | refine blk_drewN ?_ _ | refine blk_drew ?_ | refine blk_alloc ?_ _)); exact BK397.out⟩, ⟨by repeat (first | (with_reducible first | exact HB.out | apply below_alloc | apply pw_below_drewN | apply below_drew1 | refine below_set ?_ GW397.out) | exact HB.out)⟩⟩
  rw [if_neg c5] at H
  have c5b0 : decide (x4_1 < (l0.length : Int)) = false := dF_ c5
  clear c5
  obtain ⟨y406, hy406⟩ : ∃ y_ : List (S46), y_ = (([] : List (S46))) := ⟨_, rfl⟩
  replace H : (sF56.l2 k1 l0 x3_1 0 y406) = some r := by (try rw [hy406]); first | with_reducible exact H | with_reducible exact oS_ H | exact H
  have Ny406 := Aside0.mk hy406
  clear hy406
  have H' := Aside0.mk H
  clear H
  go_wp2_with (first | ((with_reducible refine gate_dst (N := 34) rfl ?_); refine Kd.R_lit k46 _ 46 ?hg (N := 34) ?hd (xs := ([] : List (S46))) (inner := []) (ok := fun _ => True) (okp := fun _ => True) ?hr ?hp (fun _ hk => hk) trivial (Below.refl _ _) (Nat.le_refl _) (by simp) ?_; (case hd => rfl); (case hg => rfl); (case hr => first | (go_simp; done) | (go_simp; rfl)); (case hp => exact (Reps.none _ _)); intro v407 w14 ho15 hb hg_ hnew_; clear hg_ hnew_; (first | rw [← Ny406.out] at ho15 | (simp only [Int.reduceToNat] at ho15; rw [← Ny406.out] at ho15)); have n0_ := Aside0.mk (Kd.R_below (by (with_reducible repeat (first | apply Kd.R_alloc | apply Kd.R_drewN | apply Kd.R_drew)); exact HO_3.out) hb); have n1_ := Aside0.mk (Kd.R_lower ho15 (below_size (by repeat (first | (with_reducible first | exact HB.out | apply below_alloc | apply pw_below_drewN | apply below_drew1 | refine below_set ?_ GW397.out) | exact HB.out)))); have n2_ := Aside0.mk (blk_below (g := gb397) (o := .cells #[.slice none 0 0] 41 (0, 0)) (by (with_reducible repeat (first | refine blk_drewN ?_ _ | refine blk_drew ?_ | refine blk_alloc ?_ _)); exact BK397.out) hb); have n3_ := Aside0.mk (below_step (by repeat (first | (with_reducible first | exact HB.out | apply below_alloc | apply pw_below_drewN | apply below_drew1 | refine below_set ?_ GW397.out) | exact HB.out)) hb); clear HO_3; clear BK397; clear HB; have HO_3 := n0_; have HO408 := n1_; have BK397 := n2_; have HB := n3_; clear n0_ n1_ n2_ n3_; clear hb ho15; obtain ⟨Ao16, co16, eo16⟩ := Kd.R_slice HO408.out; subst eo16) | ((with_reducible refine gate_dst (N := 6) rfl ?_); refine box_event ?hg (N := 6) ?hd (cs := #[.slice none 0 0]) (t := 41) ?hr ?_; (case hd => rfl); (case hg => rfl); (case hr => first | (go_simp; done) | (go_simp; rfl)); intro gb409 hg w17 hbox hb; have n0_ := Aside0.mk (Kd.R_below (by (with_reducible repeat (first | apply Kd.R_alloc | apply Kd.R_drewN | apply Kd.R_drew)); exact HO_3.out) hb); have n1_ := Aside0.mk (Kd.R_below (by (with_reducible repeat (first | apply Kd.R_alloc | apply Kd.R_drewN | apply Kd.R_drew)); exact HO408.out) hb); have n2_ := Aside0.mk (blk_below (g := gb397) (o := .cells #[.slice none 0 0] 41 (0, 0)) (by (with_reducible repeat (first | refine blk_drewN ?_ _ | refine blk_drew ?_ | refine blk_alloc ?_ _)); exact BK397.out) hb); have n3_ := Aside0.mk (below_step (by repeat (first | (with_reducible first | exact HB.out | apply below_alloc | apply pw_below_drewN | apply below_drew1 | refine below_set ?_ GW397.out) | exact HB.out)) hb); have n4_ := Aside0.mk (hbox); have n5_ := Aside0.mk ((by rw [hg]; exact (below_size (by repeat (first | (with_reducible first | exact HB.out | apply below_alloc | apply pw_below_drewN | apply below_drew1 | refine below_set ?_ GW397.out) | exact HB.out))) : w.heap.size ≤ gb409)); have n6_ := Aside0.mk ((by rw [hg]; exact (below_size (by repeat (first | (with_reducible first | exact HB.out | apply below_alloc | apply pw_below_drewN | apply below_drew1 | refine below_set ?_ GW397.out) | exact HB.out))) : w.heap.size ≤ gb409)); have n7_ := Aside0.mk ((by rw [hg]; exact Nat.ne_of_lt (blk_lt (g := gb397) (o := .cells #[.slice none 0 0] 41 (0, 0)) (by (with_reducible repeat (first | refine blk_drewN ?_ _ | refine blk_drew ?_ | refine blk_alloc ?_ _)); exact BK397.out)) : gb397 ≠ gb409)); have n8_ := Aside0.mk ((by rw [hg]; exact Nat.ne_of_gt (blk_lt (g := gb397) (o := .cells #[.slice none 0 0] 41 (0, 0)) (by (with_reducible repeat (first | refine blk_drewN ?_ _ | refine blk_drew ?_ | refine blk_alloc ?_ _)); exact BK397.out)) : gb409 ≠ gb397)); clear HO_3; clear HO408; clear BK397; clear HB; have HO_3 := n0_; have HO408 := n1_; have BK397 := n2_; have HB := n3_; have BK409 := n4_; have GW409 := n5_; have GW409 := n6_; have NB397_409 := n7_; have NB409_397 := n8_; clear n0_ n1_ n2_ n3_ n4_ n5_ n6_ n7_ n8_; clear hb hbox hg; have hnb18 := NB409_397.out; have hnc18 := NB397_409.out; have hcz19_0 : w17.cell? ⟨gb409, 0, none⟩ = some (.slice none 0 0) := (blk_cell BK409.out 0).trans rfl; have hfz19_0 := blk_frozen BK409.out 0))
  go_loopg [7] k1 (fun kq v7 w' => ∃ (x7_2 : Int) (x410000_2 : List (S46)) (u410000 : Value), v7 = .int .i64 x7_2 ∧ Aside0 (sF56.l2 kq l0 x3_1 x7_2 x410000_2 = some r) ∧ Aside0 (kq ≤ k1) ∧ Aside0 (Kd.R Kd.string 9 w' w.heap.size (fun _ => True) u3 x3_1) ∧ Aside0 (Kd.R k46 46 w' w.heap.size (fun _ => True) u410000 x410000_2) ∧ Aside0 (w'.heap[gb397]? = some (.cells #[(.slice none 0 0)] 41 (0, 0))) ∧ Aside0 (w'.heap[gb409]? = some (.cells #[u410000] 41 (0, 0))) ∧ Aside0 (Below w.heap.size w w'))
  case atStart => exact ⟨(0), (y406), (.slice Ao16 y406.length co16), (by first | rfl | (simp; done) | (simp [*]; done)), H', ⟨Nat.le_refl _⟩, ⟨by (with_reducible repeat (first | apply Kd.R_alloc | apply Kd.R_drewN | apply Kd.R_drew)); exact Kd.R_mono (Kd.R_far (p := ⟨gb409, 0, none⟩) (Kd.R_types HO_3.out BK409.out (by decide)) (fun _ hk => hk.2) (.slice Ao16 y406.length co16)) (fun _ hk => trivial)⟩, ⟨by (with_reducible repeat (first | apply Kd.R_alloc | apply Kd.R_drewN | apply Kd.R_drew)); exact Kd.R_mono (Kd.R_far (p := ⟨gb409, 0, none⟩) (Kd.R_types HO408.out BK409.out (by decide)) (fun _ hk => hk.2) (.slice Ao16 y406.length co16)) (fun _ hk => trivial)⟩, ⟨by (with_reducible repeat (first | refine blk_drewN ?_ _ | refine blk_drew ?_ | refine blk_alloc ?_ _)); refine blk_far ?_ NB397_409.out _; (with_reducible repeat (first | refine blk_drewN ?_ _ | refine blk_drew ?_ | refine blk_alloc ?_ _)); exact BK397.out⟩, ⟨by (with_reducible repeat (first | refine blk_drewN ?_ _ | refine blk_drew ?_ | refine blk_alloc ?_ _)); refine blk_put (cs := #[.slice none 0 0]) ?_ 0 _ rfl; (with_reducible repeat (first | refine blk_drewN ?_ _ | refine blk_drew ?_ | refine blk_alloc ?_ _)); exact BK409.out⟩, ⟨by repeat (first | (with_reducible first | exact HB.out | apply below_alloc | apply pw_below_drewN | apply below_drew1 | refine below_set ?_ GW397.out | refine below_set ?_ GW409.out) | exact HB.out)⟩⟩
  clear H'
  try clear c1
  try clear p2
  try clear p4
  try clear q4
  try clear hx4
  try clear c5
  try clear c5b0
  try clear c6
  try clear c6b0
  try clear p6
  try clear c7
  try clear c7b0
  try clear c8
  try clear c8b0
  try clear c9
  try clear c9b0
  try clear c9b1
  try clear c10
  try clear c10b0
  try clear c18
  try clear hcz19_0
  try clear hfz19_0
  try clear hx401_0
  try clear hx402_0
  try clear p2
  try clear p401
  try clear p402
  try clear q401
  try clear q402
  obtain ⟨x7_2, x410000_2, u410000, rfl, HA, HK2, HO_3, HO_410000, BK397, BK409, HB⟩ := hrel
  cases gk with
  | zero => exact absurd HA.out (by simp [sF56.l2])
  | succ k2 =>
   have H := HA.out
   clear HA
   simp only [sF56.l2] at H
   by_cases c20 : x7_2 < (x3_1.length : Int)
   rotate_left
   ·
    rw [if_neg c20] at H
    have c20b0 : decide (x7_2 < (x3_1.length : Int)) = false := dF_ c20
    clear c20
    obtain rfl := Option.some.inj H
    obtain ⟨Ao53, co53, eo53⟩ := Kd.R_slice HO_3.out
    subst eo53
    have hnb54 := NB409_397.out
    have hnc54 := NB397_409.out
    have hcz55_0 : wr.cell? ⟨gb409, 0, none⟩ = some (u410000) := (blk_cell BK409.out 0).trans rfl
    have hfz55_0 := blk_frozen BK409.out 0
    obtain ⟨Ao56, co56, eo56⟩ := Kd.R_slice HO_410000.out
    subst eo56
    have hcz57_0 : wr.cell? ⟨gb397, 0, none⟩ = some (.slice none 0 0) := (blk_cell BK397.out 0).trans rfl
    have hfz57_0 := blk_frozen BK397.out 0
    go_wp2
    refine bodyPost_ret (results_cell_row rfl _ _ gb397 41 #[.slice Ao56 x410000_2.length co56] (0, 0) _ rfl (by (with_reducible repeat (first | refine blk_drewN ?_ _ | refine blk_drew ?_ | refine blk_alloc ?_ _)); refine blk_put (cs := #[.slice none 0 0]) ?_ 0 _ rfl; (with_reducible repeat (first | refine blk_drewN ?_ _ | refine blk_drew ?_ | refine blk_alloc ?_ _)); exact BK397.out) Tryz.underlying41 rfl (by kernel_rfl)) rfl ?_
    exact ⟨_, by first | rfl | (simp [errW_none, errW_some] <;> rfl) | (simp [*, errW_none, errW_some] <;> rfl), by (with_reducible repeat (first | apply Kd.R_alloc | apply Kd.R_drewN | apply Kd.R_drew)); exact Kd.R_mono (Kd.R_far (p := ⟨gb397, 0, none⟩) (Kd.R_types HO_410000.out BK397.out (by decide)) (fun _ hk => hk.2) (.slice Ao56 x410000_2.length co56)) (fun _ hk => trivial), by repeat (first | (with_reducible first | exact HB.out | apply below_alloc | apply pw_below_drewN | apply below_drew1 | refine below_set ?_ GW397.out | refine below_set ?_ GW409.out) | exact HB.out)⟩
   rw [if_pos c20] at H
   have c20b0 : decide (x7_2 < (x3_1.length : Int)) = true := dT_ c20
   clear c20
   by_cases c21 : 0 ≤ x7_2
   rotate_left
   ·
    rw [if_neg c21] at H
    exact absurd H (by simp)
   rw [if_pos c21] at H
   have c21b0 : decide (0 ≤ x7_2) = true := dT_ c21
   clear c21
   replace H := Option.bind_eq_some_iff.mp H
   obtain ⟨t411, A220, H⟩ := H
   replace H : (if x7_2 > 0 then (if 0 ≤ (wrap64 (((rdOf ByteArray.empty x3_1 x7_2).size : Int) - 1)) then (if (wrap64 (((rdOf ByteArray.empty x3_1 x7_2).size : Int) - 1)) < ((rdOf ByteArray.empty x3_1 x7_2).size : Int) then (if (wrap64 (((rdOf ByteArray.empty x3_1 x7_2).size : Int) - 1)) ≤ ((rdOf ByteArray.empty x3_1 x7_2).size : Int) then ((sF58.f k2 x3_1 ((rdOf ByteArray.empty x3_1 x7_2).extract 0 ((wrap64 (((rdOf ByteArray.empty x3_1 x7_2).size : Int) - 1)) : Int).toNat)).bind fun t413 => (if x410000_2.length < 5864062014805 then (sF56.l2 k2 l0 x3_1 (wrap64 (x7_2 + 1)) (x410000_2 ++ [(⟨((bt (rdOf ByteArray.empty x3_1 x7_2) (wrap64 (((rdOf ByteArray.empty x3_1 x7_2).size : Int) - 1))) - 97) % 256, t413, t411⟩ : S46)])) else (none))) else (none)) else (none)) else (none)) else (if x410000_2.length < 5864062014805 then (sF56.l2 k2 l0 x3_1 (wrap64 (x7_2 + 1)) (x410000_2 ++ [(⟨(-1), (-1), t411⟩ : S46)])) else (none))) = some r := H
   have A22 := Aside0.mk A220
   clear A220
   by_cases c23 : x7_2 > 0
   rotate_left
   ·
    rw [if_neg c23] at H
    have c23b0 : decide (0 < x7_2) = false := dF_ c23
    clear c23
    by_cases c42 : x410000_2.length < 5864062014805
    rotate_left
    ·
     rw [if_neg c42] at H
     exact absurd H (by simp)
    rw [if_pos c42] at H
    have LMc42 := Aside0.mk c42
    clear c42
    obtain ⟨y417, hy417⟩ : ∃ y_ : List (S46), y_ = (x410000_2 ++ [(⟨(-1), (-1), t411⟩ : S46)]) := ⟨_, rfl⟩
    replace H : (sF56.l2 k2 l0 x3_1 (wrap64 (x7_2 + 1)) y417) = some r := by (try rw [hy417]); first | with_reducible exact H | with_reducible exact oS_ H | exact H
    have Ny417 := Aside0.mk hy417
    clear hy417
    have H' := Aside0.mk H
    clear H
    obtain ⟨Ao43, co43, eo43⟩ := Kd.R_slice HO_3.out
    subst eo43
    have p410 : 0 ≤ (x7_2 : Int) := oD_ (by first | (with_reducible assumption) | assumption)
    have q410 : x7_2 < (x3_1.length : Int) := oD_ (by first | (with_reducible assumption) | assumption)
    obtain ⟨ad410, e410, hx410_0⟩ := Kd.at_string (Kd.R_reads' HO_3.out).2.2 x7_2 p410 q410
    cases e410
    replace p410 := eq_true p410
    replace q410 := eq_true q410
    go_wp2_with (first | ((with_reducible refine gate_callee (f := 75) rfl ?_); refine goesL_ (some 48) rfl rfl Tryz.func75 (by kernel_rfl) rfl #[.slice A0 l0.length c0, .string (rdOf ByteArray.empty x3_1 x7_2)] rfl (by (try simp only [List.map_toArray, List.map_cons, List.map_nil]); first | done | rfl | (simp only [List.length_drop, List.length_take]; rfl)) ?_; (with_reducible refine (sF55.calls k2 _ _ l0 (rdOf ByteArray.empty x3_1 x7_2) t411 _ ?side1 HC0.out A22.out).mono ?_); (case side1 => repeat (first | exact (Kd.C_below HR0.out HB.out) | with_reducible first | apply cA_ | apply cN_ | apply cD_)); rintro e w' ⟨rfl, ⟨nd, rfl⟩⟩; refine ⟨_, rfl, ?_⟩; (try (rw [drewN_self wr]; generalize hq_ : World.drewN wr _ = wr; have n0_ : Aside0 (Kd.R Kd.string 9 wr w.heap.size (fun _ => True) (.slice (some ad410) x3_1.length co43) x3_1) := ⟨by rw [← hq_]; exact (by (with_reducible repeat (first | apply Kd.R_alloc | apply Kd.R_drewN | apply Kd.R_drew)); exact HO_3.out)⟩; have n1_ : Aside0 (Kd.R k46 46 wr w.heap.size (fun _ => True) u410000 x410000_2) := ⟨by rw [← hq_]; exact (by (with_reducible repeat (first | apply Kd.R_alloc | apply Kd.R_drewN | apply Kd.R_drew)); exact HO_410000.out)⟩; have n2_ : Aside0 (wr.heap[gb397]? = some (.cells #[.slice none 0 0] 41 (0, 0))) := ⟨by rw [← hq_]; exact (by (with_reducible repeat (first | refine blk_drewN ?_ _ | refine blk_drew ?_ | refine blk_alloc ?_ _)); exact BK397.out)⟩; have n3_ : Aside0 (wr.heap[gb409]? = some (.cells #[u410000] 41 (0, 0))) := ⟨by rw [← hq_]; exact (by (with_reducible repeat (first | refine blk_drewN ?_ _ | refine blk_drew ?_ | refine blk_alloc ?_ _)); exact BK409.out)⟩; have n4_ : Aside0 (Below w.heap.size w wr) := ⟨by rw [← hq_]; exact (by repeat (first | (with_reducible first | exact HB.out | apply below_alloc | apply pw_below_drewN | apply below_drew1 | refine below_set ?_ GW397.out | refine below_set ?_ GW409.out) | exact HB.out))⟩; clear HO_3 HO_410000 BK397 BK409 HB hq_; have HO_3 := n0_; have HO_410000 := n1_; have BK397 := n2_; have BK409 := n3_; have HB := n4_; clear n0_ n1_ n2_ n3_ n4_))) | ((with_reducible refine gate_dst (N := 9) rfl ?_); refine box_event ?hg (N := 9) ?hd (cs := #[.int .i64 0, .int .i64 0, .bool false]) (t := 46) ?hr ?_; (case hd => rfl); (case hg => rfl); (case hr => first | (go_simp; done) | (go_simp; rfl)); intro gb412 hg w44 hbox hb; have n0_ := Aside0.mk (Kd.R_below (by (with_reducible repeat (first | apply Kd.R_alloc | apply Kd.R_drewN | apply Kd.R_drew)); exact HO_3.out) hb); have n1_ := Aside0.mk (Kd.R_below (Kd.R_elderB (by (with_reducible repeat (first | apply Kd.R_alloc | apply Kd.R_drewN | apply Kd.R_drew)); exact HO_410000.out) gb412 (Nat.le_of_eq hg.symm)) hb); have n2_ := Aside0.mk (blk_below (g := gb397) (o := .cells #[.slice none 0 0] 41 (0, 0)) (by (with_reducible repeat (first | refine blk_drewN ?_ _ | refine blk_drew ?_ | refine blk_alloc ?_ _)); exact BK397.out) hb); have n3_ := Aside0.mk (blk_below (g := gb409) (o := .cells #[u410000] 41 (0, 0)) (by (with_reducible repeat (first | refine blk_drewN ?_ _ | refine blk_drew ?_ | refine blk_alloc ?_ _)); exact BK409.out) hb); have n4_ := Aside0.mk (below_step (by repeat (first | (with_reducible first | exact HB.out | apply below_alloc | apply pw_below_drewN | apply below_drew1 | refine below_set ?_ GW397.out | refine below_set ?_ GW409.out) | exact HB.out)) hb); have n5_ := Aside0.mk (hbox); have n6_ := Aside0.mk ((by rw [hg]; exact (below_size (by repeat (first | (with_reducible first | exact HB.out | apply below_alloc | apply pw_below_drewN | apply below_drew1 | refine below_set ?_ GW397.out | refine below_set ?_ GW409.out) | exact HB.out))) : w.heap.size ≤ gb412)); have n7_ := Aside0.mk ((by rw [hg]; exact (below_size (by repeat (first | (with_reducible first | exact HB.out | apply below_alloc | apply pw_below_drewN | apply below_drew1 | refine below_set ?_ GW397.out | refine below_set ?_ GW409.out) | exact HB.out))) : w.heap.size ≤ gb412)); have n8_ := Aside0.mk ((by rw [hg]; exact Nat.ne_of_lt (blk_lt (g := gb397) (o := .cells #[.slice none 0 0] 41 (0, 0)) (by (with_reducible repeat (first | refine blk_drewN ?_ _ | refine blk_drew ?_ | refine blk_alloc ?_ _)); exact BK397.out)) : gb397 ≠ gb412)); have n9_ := Aside0.mk ((by rw [hg]; exact Nat.ne_of_gt (blk_lt (g := gb397) (o := .cells #[.slice none 0 0] 41 (0, 0)) (by (with_reducible repeat (first | refine blk_drewN ?_ _ | refine blk_drew ?_ | refine blk_alloc ?_ _)); exact BK397.out)) : gb412 ≠ gb397)); have n10_ := Aside0.mk ((by rw [hg]; exact Nat.ne_of_lt (blk_lt (g := gb409) (o := .cells #[u410000] 41 (0, 0)) (by (with_reducible repeat (first | refine blk_drewN ?_ _ | refine blk_drew ?_ | refine blk_alloc ?_ _)); exact BK409.out)) : gb409 ≠ gb412)); have n11_ := Aside0.mk ((by rw [hg]; exact Nat.ne_of_gt (blk_lt (g := gb409) (o := .cells #[u410000] 41 (0, 0)) (by (with_reducible repeat (first | refine blk_drewN ?_ _ | refine blk_drew ?_ | refine blk_alloc ?_ _)); exact BK409.out)) : gb412 ≠ gb409)); clear HO_3; clear HO_410000; clear BK397; clear BK409; clear HB; have HO_3 := n0_; have HO_410000 := n1_; have BK397 := n2_; have BK409 := n3_; have HB := n4_; have BK412 := n5_; have GW412 := n6_; have GW412 := n7_; have NB397_412 := n8_; have NB412_397 := n9_; have NB409_412 := n10_; have NB412_409 := n11_; clear n0_ n1_ n2_ n3_ n4_ n5_ n6_ n7_ n8_ n9_ n10_ n11_; clear hb hbox hg; have hnb45 := NB412_397.out; have hnc45 := NB397_412.out; have hnb46 := NB412_409.out; have hnc46 := NB409_412.out; have hcz47_0 : w44.cell? ⟨gb412, 0, none⟩ = some (.int .i64 0) := (blk_cell BK412.out 0).trans rfl; have hcz47_1 : w44.cell? ⟨gb412, 1, none⟩ = some (.int .i64 0) := (blk_cell BK412.out 1).trans rfl; have hcz47_2 : w44.cell? ⟨gb412, 2, none⟩ = some (.bool false) := (blk_cell BK412.out 2).trans rfl; have hfz47_0 := blk_frozen BK412.out 0; have hfz47_1 := blk_frozen BK412.out 1; have hfz47_2 := blk_frozen BK412.out 2; have hnb48 := NB409_397.out; have hnc48 := NB397_409.out; have hcz49_0 : w44.cell? ⟨gb409, 0, none⟩ = some (u410000) := (blk_cell BK409.out 0).trans rfl; have hfz49_0 := blk_frozen BK409.out 0) | ((with_reducible refine gate_builtin (b := .append) (xs := #[.tmp 69, .tmp 71]) rfl ?_); at_builtin; refine Kd.R_append k46 (w0 := w) w.heap.size rfl (.tmp 69) (.tmp 71) 39 46 (.agg #[(.int .i64 0), (.int .i64 0), (.bool false)]) 24 rfl Tryz.underlying39 info46 rfl (by decide) (by omega) u410000 x410000_2 (⟨(-1), (-1), t411⟩ : S46) [.int .i64 (-1), .int .i64 (-1), .bool t411] (fun k_ => k_ ≠ gb412) (fun _ => False) rfl (by first | (go_simp; done) | (go_simp; rfl)) ?aP (fun _ hk => hk.elim) ?aF ?aO ?aB ?aS ?aL ?_; (case aP => exact k46_mkM _ _ _ (⟨(-1), (-1), t411⟩ : S46)); (case aB => exact (by repeat (first | (with_reducible first | exact HB.out | apply below_alloc | apply pw_below_drewN | apply below_drew1 | refine below_set ?_ GW397.out | refine below_set ?_ GW409.out | refine below_set ?_ GW412.out) | exact HB.out))); (case aF => exact (fun k_ hk => Kd.freshB (g := gb412) (o := .cells #[.int .i64 (-1), .int .i64 (-1), .bool t411] 46 (0, 0)) (by (with_reducible repeat (first | refine blk_drewN ?_ _ | refine blk_drew ?_ | refine blk_alloc ?_ _)); refine blk_put (cs := #[.int .i64 (-1), .int .i64 (-1), .bool false]) ?_ 2 _ rfl; (with_reducible repeat (first | refine blk_drewN ?_ _ | refine blk_drew ?_ | refine blk_alloc ?_ _)); refine blk_put (cs := #[.int .i64 (-1), .int .i64 0, .bool false]) ?_ 1 _ rfl; (with_reducible repeat (first | refine blk_drewN ?_ _ | refine blk_drew ?_ | refine blk_alloc ?_ _)); refine blk_put (cs := #[.int .i64 0, .int .i64 0, .bool false]) ?_ 0 _ rfl; (with_reducible repeat (first | refine blk_drewN ?_ _ | refine blk_drew ?_ | refine blk_alloc ?_ _)); exact BK412.out) k_ hk)); (case aO => exact (by (with_reducible repeat (first | apply Kd.R_alloc | apply Kd.R_drewN | apply Kd.R_drew)); exact Kd.R_mono (Kd.R_far (p := ⟨gb412, 2, none⟩) (Kd.R_far (p := ⟨gb412, 1, none⟩) (Kd.R_far (p := ⟨gb412, 0, none⟩) (Kd.R_mono HO_410000.out (fun k_ hk => (⟨hk, hk.2⟩ : _ ∧ k_ ≠ gb412))) (fun _ hk => hk.2) (.int .i64 (-1))) (fun _ hk => hk.2) (.int .i64 (-1))) (fun _ hk => hk.2) (.bool t411)) (fun _ hk => hk.1.2))); (case aS => exact (below_size (by repeat (first | (with_reducible first | exact HB.out | apply below_alloc | apply pw_below_drewN | apply below_drew1 | refine below_set ?_ GW397.out | refine below_set ?_ GW409.out | refine below_set ?_ GW412.out) | exact HB.out)))); (case aL => have := LMc42.out; omega); intro v418 w50 ho hb hg hat; rw [← Ny417.out] at ho; have n0_ := Aside0.mk (Kd.R_over' (by (with_reducible repeat (first | apply Kd.R_alloc | apply Kd.R_drewN | apply Kd.R_drew)); exact (Kd.R_mono (Kd.R_far (p := ⟨gb412, 2, none⟩) (Kd.R_far (p := ⟨gb412, 1, none⟩) (Kd.R_far (p := ⟨gb412, 0, none⟩) (Kd.R_types HO_3.out BK412.out (by decide)) (fun _ hk => hk.2) (.int .i64 (-1))) (fun _ hk => hk.2) (.int .i64 (-1))) (fun _ hk => hk.2) (.bool t411)) (fun _ h_ => h_.1))) (Kd.R_typed (by (with_reducible repeat (first | apply Kd.R_alloc | apply Kd.R_drewN | apply Kd.R_drew)); exact (Kd.R_mono (Kd.R_far (p := ⟨gb412, 2, none⟩) (Kd.R_far (p := ⟨gb412, 1, none⟩) (Kd.R_far (p := ⟨gb412, 0, none⟩) (Kd.R_mono HO_410000.out (fun k_ hk => (⟨hk, hk.2⟩ : _ ∧ k_ ≠ gb412))) (fun _ hk => hk.2) (.int .i64 (-1))) (fun _ hk => hk.2) (.int .i64 (-1))) (fun _ hk => hk.2) (.bool t411)) (fun _ h_ => h_.1)))) (by decide) hg); have n1_ := Aside0.mk (blk_grown (g := gb397) (o := .cells #[.slice none 0 0] 41 (0, 0)) (by (with_reducible repeat (first | refine blk_drewN ?_ _ | refine blk_drew ?_ | refine blk_alloc ?_ _)); refine blk_far ?_ NB397_412.out _; (with_reducible repeat (first | refine blk_drewN ?_ _ | refine blk_drew ?_ | refine blk_alloc ?_ _)); refine blk_far ?_ NB397_412.out _; (with_reducible repeat (first | refine blk_drewN ?_ _ | refine blk_drew ?_ | refine blk_alloc ?_ _)); refine blk_far ?_ NB397_412.out _; (with_reducible repeat (first | refine blk_drewN ?_ _ | refine blk_drew ?_ | refine blk_alloc ?_ _)); exact BK397.out) hg (Kd.R_ne HO_410000.out BK397.out (by decide))); have n2_ := Aside0.mk (blk_grown (g := gb409) (o := .cells #[u410000] 41 (0, 0)) (by (with_reducible repeat (first | refine blk_drewN ?_ _ | refine blk_drew ?_ | refine blk_alloc ?_ _)); refine blk_far ?_ NB409_412.out _; (with_reducible repeat (first | refine blk_drewN ?_ _ | refine blk_drew ?_ | refine blk_alloc ?_ _)); refine blk_far ?_ NB409_412.out _; (with_reducible repeat (first | refine blk_drewN ?_ _ | refine blk_drew ?_ | refine blk_alloc ?_ _)); refine blk_far ?_ NB409_412.out _; (with_reducible repeat (first | refine blk_drewN ?_ _ | refine blk_drew ?_ | refine blk_alloc ?_ _)); exact BK409.out) hg (Kd.R_ne HO_410000.out BK409.out (by decide))); have n3_ := Aside0.mk (blk_grown (g := gb412) (o := .cells #[.int .i64 (-1), .int .i64 (-1), .bool t411] 46 (0, 0)) (by (with_reducible repeat (first | refine blk_drewN ?_ _ | refine blk_drew ?_ | refine blk_alloc ?_ _)); refine blk_put (cs := #[.int .i64 (-1), .int .i64 (-1), .bool false]) ?_ 2 _ rfl; (with_reducible repeat (first | refine blk_drewN ?_ _ | refine blk_drew ?_ | refine blk_alloc ?_ _)); refine blk_put (cs := #[.int .i64 (-1), .int .i64 0, .bool false]) ?_ 1 _ rfl; (with_reducible repeat (first | refine blk_drewN ?_ _ | refine blk_drew ?_ | refine blk_alloc ?_ _)); refine blk_put (cs := #[.int .i64 0, .int .i64 0, .bool false]) ?_ 0 _ rfl; (with_reducible repeat (first | refine blk_drewN ?_ _ | refine blk_drew ?_ | refine blk_alloc ?_ _)); exact BK412.out) hg (Kd.R_away HO_410000.out (fun _ hk => hk.2))); have n4_ := Aside0.mk (hb); have n5_ := Aside0.mk (ho); clear HO_3; clear BK397; clear BK409; clear BK412; clear HB; clear HO_410000; have HO_3 := n0_; have BK397 := n1_; have BK409 := n2_; have BK412 := n3_; have HB := n4_; have HO419 := n5_; clear n0_ n1_ n2_ n3_ n4_ n5_; clear ho hb hg hat; obtain ⟨Ao51, co51, eo51⟩ := Kd.R_slice HO419.out; subst eo51; have hcz52_0 : w50.cell? ⟨gb409, 0, none⟩ = some (u410000) := (blk_cell BK409.out 0).trans rfl; have hfz52_0 := blk_frozen BK409.out 0))
    go_roundg k2
    case measure => have := HK1.out; have := HK2.out; omega
    case rel => exact ⟨(wrap64 (x7_2 + 1)), (y417), (.slice Ao51 y417.length co51), (by first | rfl | (simp; done) | (simp [*]; done)), H', ⟨by have := HK1.out; have := HK2.out; omega⟩, ⟨by (with_reducible repeat (first | apply Kd.R_alloc | apply Kd.R_drewN | apply Kd.R_drew)); exact Kd.R_mono (Kd.R_far (p := ⟨gb409, 0, none⟩) (Kd.R_types HO_3.out BK409.out (by decide)) (fun _ hk => hk.2) (.slice Ao51 y417.length co51)) (fun _ hk => trivial)⟩, ⟨by (with_reducible repeat (first | apply Kd.R_alloc | apply Kd.R_drewN | apply Kd.R_drew)); exact Kd.R_mono (Kd.R_far (p := ⟨gb409, 0, none⟩) (Kd.R_types HO419.out BK409.out (by decide)) (fun _ hk => hk.2) (.slice Ao51 y417.length co51)) (fun _ hk => trivial)⟩, ⟨by (with_reducible repeat (first | refine blk_drewN ?_ _ | refine blk_drew ?_ | refine blk_alloc ?_ _)); refine blk_far ?_ NB397_409.out _; (with_reducible repeat (first | refine blk_drewN ?_ _ | refine blk_drew ?_ | refine blk_alloc ?_ _)); exact BK397.out⟩, ⟨by (with_reducible repeat (first | refine blk_drewN ?_ _ | refine blk_drew ?_ | refine blk_alloc ?_ _)); refine blk_put (cs := #[u410000]) ?_ 0 _ rfl; (with_reducible repeat (first | refine blk_drewN ?_ _ | refine blk_drew ?_ | refine blk_alloc ?_ _)); exact BK409.out⟩, ⟨by repeat (first | (with_reducible first | exact HB.out | apply below_alloc | apply pw_below_drewN | apply below_drew1 | refine below_set ?_ GW397.out | refine below_set ?_ GW409.out | refine below_set ?_ GW412.out) | exact HB.out)⟩⟩
   rw [if_pos c23] at H
   have c23b0 : decide (0 < x7_2) = true := dT_ c23
   clear c23
   obtain ⟨ji24, hji24⟩ : ∃ j_ : Int, (wrap64 (((rdOf ByteArray.empty x3_1 x7_2).size : Int) - 1)) = j_ := ⟨_, rfl⟩
   replace H : (if 0 ≤ (ji24) then (if (ji24) < ((rdOf ByteArray.empty x3_1 x7_2).size : Int) then (if (ji24) ≤ ((rdOf ByteArray.empty x3_1 x7_2).size : Int) then ((sF58.f k2 x3_1 ((rdOf ByteArray.empty x3_1 x7_2).extract 0 ((ji24) : Int).toNat)).bind fun t413 => (if x410000_2.length < 5864062014805 then (sF56.l2 k2 l0 x3_1 (wrap64 (x7_2 + 1)) (x410000_2 ++ [(⟨((bt (rdOf ByteArray.empty x3_1 x7_2) (ji24)) - 97) % 256, t413, t411⟩ : S46)])) else (none))) else (none)) else (none)) else (none)) = some r := by first | (rw [hji24] at H; exact H) | (simp only [hji24] at H ⊢; exact H)
   (try rw [hji24] at A22)
   have hji24w : (IntKind.i64.wrap (((rdOf ByteArray.empty x3_1 x7_2).size : Int) - 1)) = ji24 := (i64_w _).trans hji24
   by_cases c25 : 0 ≤ (ji24)
   rotate_left
   ·
    rw [if_neg c25] at H
    exact absurd H (by simp)
   rw [if_pos c25] at H
   have c25b0 : decide (0 ≤ (ji24)) = true := dT_ c25
   clear c25
   by_cases c26 : (ji24) < ((rdOf ByteArray.empty x3_1 x7_2).size : Int)
   rotate_left
   ·
    rw [if_neg c26] at H
    exact absurd H (by simp)
   rw [if_pos c26] at H
   have c26b0 : decide ((ji24) < ((rdOf ByteArray.empty x3_1 x7_2).size : Int)) = true := dT_ c26
   clear c26
   have c28b0 := eq_true (oD_ (by first | (with_reducible assumption) | assumption) : 0 ≤ (ji24))
   by_cases c29 : (ji24) ≤ ((rdOf ByteArray.empty x3_1 x7_2).size : Int)
   rotate_left
   ·
    rw [if_neg c29] at H
    exact absurd H (by simp)
   rw [if_pos c29] at H
   have c29b0 := eq_true c29
   have c29b1 : decide ((ji24) ≤ ((rdOf ByteArray.empty x3_1 x7_2).size : Int)) = true := dT_ c29
   clear c29
   replace H := Option.bind_eq_some_iff.mp H
   obtain ⟨t413, A300, H⟩ := H
   replace H : (if x410000_2.length < 5864062014805 then (sF56.l2 k2 l0 x3_1 (wrap64 (x7_2 + 1)) (x410000_2 ++ [(⟨((bt (rdOf ByteArray.empty x3_1 x7_2) (ji24)) - 97) % 256, t413, t411⟩ : S46)])) else (none)) = some r := H
   have A30 := Aside0.mk A300
   clear A300
   by_cases c31 : x410000_2.length < 5864062014805
   rotate_left
   ·
    rw [if_neg c31] at H
    exact absurd H (by simp)
   rw [if_pos c31] at H
   have LMc31 := Aside0.mk c31
   clear c31
   obtain ⟨y414, hy414⟩ : ∃ y_ : List (S46), y_ = (x410000_2 ++ [(⟨((bt (rdOf ByteArray.empty x3_1 x7_2) (ji24)) - 97) % 256, t413, t411⟩ : S46)]) := ⟨_, rfl⟩
   replace H : (sF56.l2 k2 l0 x3_1 (wrap64 (x7_2 + 1)) y414) = some r := by (try rw [hy414]); first | with_reducible exact H | with_reducible exact oS_ H | exact H
   have Ny414 := Aside0.mk hy414
   clear hy414
   have H' := Aside0.mk H
   clear H
   obtain ⟨Ao32, co32, eo32⟩ := Kd.R_slice HO_3.out
   subst eo32
   have p410 : 0 ≤ (x7_2 : Int) := oD_ (by first | (with_reducible assumption) | assumption)
   have q410 : x7_2 < (x3_1.length : Int) := oD_ (by first | (with_reducible assumption) | assumption)
   obtain ⟨ad410, e410, hx410_0⟩ := Kd.at_string (Kd.R_reads' HO_3.out).2.2 x7_2 p410 q410
   cases e410
   replace p410 := eq_true p410
   replace q410 := eq_true q410
   go_wp2_with (first | ((with_reducible refine gate_callee (f := 75) rfl ?_); refine goesL_ (some 48) rfl rfl Tryz.func75 (by kernel_rfl) rfl #[.slice A0 l0.length c0, .string (rdOf ByteArray.empty x3_1 x7_2)] rfl (by (try simp only [List.map_toArray, List.map_cons, List.map_nil]); first | done | rfl | (simp only [List.length_drop, List.length_take]; rfl)) ?_; (with_reducible refine (sF55.calls k2 _ _ l0 (rdOf ByteArray.empty x3_1 x7_2) t411 _ ?side1 HC0.out A22.out).mono ?_); (case side1 => repeat (first | exact (Kd.C_below HR0.out HB.out) | with_reducible first | apply cA_ | apply cN_ | apply cD_)); rintro e w' ⟨rfl, ⟨nd, rfl⟩⟩; refine ⟨_, rfl, ?_⟩; (try (rw [drewN_self wr]; generalize hq_ : World.drewN wr _ = wr; have n0_ : Aside0 (Kd.R Kd.string 9 wr w.heap.size (fun _ => True) (.slice (some ad410) x3_1.length co32) x3_1) := ⟨by rw [← hq_]; exact (by (with_reducible repeat (first | apply Kd.R_alloc | apply Kd.R_drewN | apply Kd.R_drew)); exact HO_3.out)⟩; have n1_ : Aside0 (Kd.R k46 46 wr w.heap.size (fun _ => True) u410000 x410000_2) := ⟨by rw [← hq_]; exact (by (with_reducible repeat (first | apply Kd.R_alloc | apply Kd.R_drewN | apply Kd.R_drew)); exact HO_410000.out)⟩; have n2_ : Aside0 (wr.heap[gb397]? = some (.cells #[.slice none 0 0] 41 (0, 0))) := ⟨by rw [← hq_]; exact (by (with_reducible repeat (first | refine blk_drewN ?_ _ | refine blk_drew ?_ | refine blk_alloc ?_ _)); exact BK397.out)⟩; have n3_ : Aside0 (wr.heap[gb409]? = some (.cells #[u410000] 41 (0, 0))) := ⟨by rw [← hq_]; exact (by (with_reducible repeat (first | refine blk_drewN ?_ _ | refine blk_drew ?_ | refine blk_alloc ?_ _)); exact BK409.out)⟩; have n4_ : Aside0 (Below w.heap.size w wr) := ⟨by rw [← hq_]; exact (by repeat (first | (with_reducible first | exact HB.out | apply below_alloc | apply pw_below_drewN | apply below_drew1 | refine below_set ?_ GW397.out | refine below_set ?_ GW409.out) | exact HB.out))⟩; clear HO_3 HO_410000 BK397 BK409 HB hq_; have HO_3 := n0_; have HO_410000 := n1_; have BK397 := n2_; have BK409 := n3_; have HB := n4_; clear n0_ n1_ n2_ n3_ n4_))) | ((with_reducible refine gate_dst (N := 9) rfl ?_); refine box_event ?hg (N := 9) ?hd (cs := #[.int .i64 0, .int .i64 0, .bool false]) (t := 46) ?hr ?_; (case hd => rfl); (case hg => rfl); (case hr => first | (go_simp; done) | (go_simp; rfl)); intro gb412 hg w33 hbox hb; have n0_ := Aside0.mk (Kd.R_below (by (with_reducible repeat (first | apply Kd.R_alloc | apply Kd.R_drewN | apply Kd.R_drew)); exact HO_3.out) hb); have n1_ := Aside0.mk (Kd.R_below (Kd.R_elderB (by (with_reducible repeat (first | apply Kd.R_alloc | apply Kd.R_drewN | apply Kd.R_drew)); exact HO_410000.out) gb412 (Nat.le_of_eq hg.symm)) hb); have n2_ := Aside0.mk (blk_below (g := gb397) (o := .cells #[.slice none 0 0] 41 (0, 0)) (by (with_reducible repeat (first | refine blk_drewN ?_ _ | refine blk_drew ?_ | refine blk_alloc ?_ _)); exact BK397.out) hb); have n3_ := Aside0.mk (blk_below (g := gb409) (o := .cells #[u410000] 41 (0, 0)) (by (with_reducible repeat (first | refine blk_drewN ?_ _ | refine blk_drew ?_ | refine blk_alloc ?_ _)); exact BK409.out) hb); have n4_ := Aside0.mk (below_step (by repeat (first | (with_reducible first | exact HB.out | apply below_alloc | apply pw_below_drewN | apply below_drew1 | refine below_set ?_ GW397.out | refine below_set ?_ GW409.out) | exact HB.out)) hb); have n5_ := Aside0.mk (hbox); have n6_ := Aside0.mk ((by rw [hg]; exact (below_size (by repeat (first | (with_reducible first | exact HB.out | apply below_alloc | apply pw_below_drewN | apply below_drew1 | refine below_set ?_ GW397.out | refine below_set ?_ GW409.out) | exact HB.out))) : w.heap.size ≤ gb412)); have n7_ := Aside0.mk ((by rw [hg]; exact (below_size (by repeat (first | (with_reducible first | exact HB.out | apply below_alloc | apply pw_below_drewN | apply below_drew1 | refine below_set ?_ GW397.out | refine below_set ?_ GW409.out) | exact HB.out))) : w.heap.size ≤ gb412)); have n8_ := Aside0.mk ((by rw [hg]; exact Nat.ne_of_lt (blk_lt (g := gb397) (o := .cells #[.slice none 0 0] 41 (0, 0)) (by (with_reducible repeat (first | refine blk_drewN ?_ _ | refine blk_drew ?_ | refine blk_alloc ?_ _)); exact BK397.out)) : gb397 ≠ gb412)); have n9_ := Aside0.mk ((by rw [hg]; exact Nat.ne_of_gt (blk_lt (g := gb397) (o := .cells #[.slice none 0 0] 41 (0, 0)) (by (with_reducible repeat (first | refine blk_drewN ?_ _ | refine blk_drew ?_ | refine blk_alloc ?_ _)); exact BK397.out)) : gb412 ≠ gb397)); have n10_ := Aside0.mk ((by rw [hg]; exact Nat.ne_of_lt (blk_lt (g := gb409) (o := .cells #[u410000] 41 (0, 0)) (by (with_reducible repeat (first | refine blk_drewN ?_ _ | refine blk_drew ?_ | refine blk_alloc ?_ _)); exact BK409.out)) : gb409 ≠ gb412)); have n11_ := Aside0.mk ((by rw [hg]; exact Nat.ne_of_gt (blk_lt (g := gb409) (o := .cells #[u410000] 41 (0, 0)) (by (with_reducible repeat (first | refine blk_drewN ?_ _ | refine blk_drew ?_ | refine blk_alloc ?_ _)); exact BK409.out)) : gb412 ≠ gb409)); clear HO_3; clear HO_410000; clear BK397; clear BK409; clear HB; have HO_3 := n0_; have HO_410000 := n1_; have BK397 := n2_; have BK409 := n3_; have HB := n4_; have BK412 := n5_; have GW412 := n6_; have GW412 := n7_; have NB397_412 := n8_; have NB412_397 := n9_; have NB409_412 := n10_; have NB412_409 := n11_; clear n0_ n1_ n2_ n3_ n4_ n5_ n6_ n7_ n8_ n9_ n10_ n11_; clear hb hbox hg; have hnb34 := NB412_397.out; have hnc34 := NB397_412.out; have hnb35 := NB412_409.out; have hnc35 := NB409_412.out; have hcz36_0 : w33.cell? ⟨gb412, 0, none⟩ = some (.int .i64 0) := (blk_cell BK412.out 0).trans rfl; have hcz36_1 : w33.cell? ⟨gb412, 1, none⟩ = some (.int .i64 0) := (blk_cell BK412.out 1).trans rfl; have hcz36_2 : w33.cell? ⟨gb412, 2, none⟩ = some (.bool false) := (blk_cell BK412.out 2).trans rfl; have hfz36_0 := blk_frozen BK412.out 0; have hfz36_1 := blk_frozen BK412.out 1; have hfz36_2 := blk_frozen BK412.out 2; have p27 : 0 ≤ ((ji24) : Int) := oD_ (by first | (with_reducible assumption) | assumption); have q27 : (ji24) < ((rdOf ByteArray.empty x3_1 x7_2).size : Int) := oD_ (by first | (with_reducible assumption) | assumption); have hx27 := bt_at (rdOf ByteArray.empty x3_1 x7_2) (ji24); replace p27 := eq_true p27; replace q27 := eq_true q27) | ((with_reducible refine gate_callee (f := 91) rfl ?_); refine goesL_ (some 66) rfl rfl Tryz.func91 (by kernel_rfl) rfl #[.slice (some ad410) x3_1.length co32, .string ((rdOf ByteArray.empty x3_1 x7_2).extract 0 ((ji24) : Int).toNat)] rfl (by (try simp only [List.map_toArray, List.map_cons, List.map_nil]); first | done | (simp only [hji24]; rfl) | rfl | (simp only [List.length_drop, List.length_take]; rfl)) ?_; (with_reducible refine (sF58.calls k2 _ _ x3_1 ((rdOf ByteArray.empty x3_1 x7_2).extract 0 ((ji24) : Int).toNat) t413 _ ?side1 ?side2 A30.out).mono ?_); (case side1 => refine (Kd.R_reads' (e := 9) (base := w.heap.size) (ok := fun k_ => True) (n := x3_1.length) (c := co32) ?_).2.2; exact (by (with_reducible repeat (first | apply Kd.R_alloc | apply Kd.R_drewN | apply Kd.R_drew)); exact (Kd.R_mono (Kd.R_far (p := ⟨gb412, 0, none⟩) (Kd.R_far (p := ⟨gb412, 2, none⟩) (Kd.R_far (p := ⟨gb412, 1, none⟩) (Kd.R_far (p := ⟨gb412, 0, none⟩) (Kd.R_types HO_3.out BK412.out (by decide)) (fun _ hk => hk.2) (.int .i64 (-1))) (fun _ hk => hk.2) (.int .i64 (-1))) (fun _ hk => hk.2) (.bool t411)) (fun _ hk => hk.2) (.int .i64 (((bt (rdOf ByteArray.empty x3_1 x7_2) (ji24)) - 97) % 256))) (fun _ h_ => h_.1)))); (case side2 => exact (Kd.R_reads' HO_3.out).2.1); rintro e w' ⟨rfl, ⟨nd, rfl⟩⟩; refine ⟨_, rfl, ?_⟩; have m0_ : Aside0 (Kd.R Kd.string 9 (((((w33.setCell ⟨gb412, 0, none⟩ (.int .i64 (-1))).setCell ⟨gb412, 1, none⟩ (.int .i64 (-1))).setCell ⟨gb412, 2, none⟩ (.bool t411)).setCell ⟨gb412, 0, none⟩ (.int .i64 (((bt (rdOf ByteArray.empty x3_1 x7_2) (ji24)) - 97) % 256))).drewN nd) w.heap.size (fun _ => True) (.slice (some ad410) x3_1.length co32) x3_1) := ⟨by (with_reducible repeat (first | apply Kd.R_alloc | apply Kd.R_drewN | apply Kd.R_drew)); exact Kd.R_mono (Kd.R_far (p := ⟨gb412, 0, none⟩) (Kd.R_far (p := ⟨gb412, 2, none⟩) (Kd.R_far (p := ⟨gb412, 1, none⟩) (Kd.R_far (p := ⟨gb412, 0, none⟩) (Kd.R_types HO_3.out BK412.out (by decide)) (fun _ hk => hk.2) (.int .i64 (-1))) (fun _ hk => hk.2) (.int .i64 (-1))) (fun _ hk => hk.2) (.bool t411)) (fun _ hk => hk.2) (.int .i64 (((bt (rdOf ByteArray.empty x3_1 x7_2) (ji24)) - 97) % 256))) (fun _ _ => trivial)⟩; have m1_ : Aside0 (Kd.R k46 46 (((((w33.setCell ⟨gb412, 0, none⟩ (.int .i64 (-1))).setCell ⟨gb412, 1, none⟩ (.int .i64 (-1))).setCell ⟨gb412, 2, none⟩ (.bool t411)).setCell ⟨gb412, 0, none⟩ (.int .i64 (((bt (rdOf ByteArray.empty x3_1 x7_2) (ji24)) - 97) % 256))).drewN nd) w.heap.size (fun k_ => True ∧ k_ ≠ gb412) u410000 x410000_2) := ⟨by (with_reducible repeat (first | apply Kd.R_alloc | apply Kd.R_drewN | apply Kd.R_drew)); exact Kd.R_mono (Kd.R_far (p := ⟨gb412, 0, none⟩) (Kd.R_far (p := ⟨gb412, 2, none⟩) (Kd.R_far (p := ⟨gb412, 1, none⟩) (Kd.R_far (p := ⟨gb412, 0, none⟩) (Kd.R_mono HO_410000.out (fun k_ hk => (⟨hk, hk.2⟩ : _ ∧ k_ ≠ gb412))) (fun _ hk => hk.2) (.int .i64 (-1))) (fun _ hk => hk.2) (.int .i64 (-1))) (fun _ hk => hk.2) (.bool t411)) (fun _ hk => hk.2) (.int .i64 (((bt (rdOf ByteArray.empty x3_1 x7_2) (ji24)) - 97) % 256))) (fun _ hk => ⟨trivial, hk.2⟩)⟩; have m2_ : Aside0 ((((((w33.setCell ⟨gb412, 0, none⟩ (.int .i64 (-1))).setCell ⟨gb412, 1, none⟩ (.int .i64 (-1))).setCell ⟨gb412, 2, none⟩ (.bool t411)).setCell ⟨gb412, 0, none⟩ (.int .i64 (((bt (rdOf ByteArray.empty x3_1 x7_2) (ji24)) - 97) % 256))).drewN nd).heap[gb397]? = some (.cells #[.slice none 0 0] 41 (0, 0))) := ⟨by (with_reducible repeat (first | refine blk_drewN ?_ _ | refine blk_drew ?_ | refine blk_alloc ?_ _)); refine blk_far ?_ NB397_412.out _; (with_reducible repeat (first | refine blk_drewN ?_ _ | refine blk_drew ?_ | refine blk_alloc ?_ _)); refine blk_far ?_ NB397_412.out _; (with_reducible repeat (first | refine blk_drewN ?_ _ | refine blk_drew ?_ | refine blk_alloc ?_ _)); refine blk_far ?_ NB397_412.out _; (with_reducible repeat (first | refine blk_drewN ?_ _ | refine blk_drew ?_ | refine blk_alloc ?_ _)); refine blk_far ?_ NB397_412.out _; (with_reducible repeat (first | refine blk_drewN ?_ _ | refine blk_drew ?_ | refine blk_alloc ?_ _)); exact BK397.out⟩; have m3_ : Aside0 ((((((w33.setCell ⟨gb412, 0, none⟩ (.int .i64 (-1))).setCell ⟨gb412, 1, none⟩ (.int .i64 (-1))).setCell ⟨gb412, 2, none⟩ (.bool t411)).setCell ⟨gb412, 0, none⟩ (.int .i64 (((bt (rdOf ByteArray.empty x3_1 x7_2) (ji24)) - 97) % 256))).drewN nd).heap[gb409]? = some (.cells #[u410000] 41 (0, 0))) := ⟨by (with_reducible repeat (first | refine blk_drewN ?_ _ | refine blk_drew ?_ | refine blk_alloc ?_ _)); refine blk_far ?_ NB409_412.out _; (with_reducible repeat (first | refine blk_drewN ?_ _ | refine blk_drew ?_ | refine blk_alloc ?_ _)); refine blk_far ?_ NB409_412.out _; (with_reducible repeat (first | refine blk_drewN ?_ _ | refine blk_drew ?_ | refine blk_alloc ?_ _)); refine blk_far ?_ NB409_412.out _; (with_reducible repeat (first | refine blk_drewN ?_ _ | refine blk_drew ?_ | refine blk_alloc ?_ _)); refine blk_far ?_ NB409_412.out _; (with_reducible repeat (first | refine blk_drewN ?_ _ | refine blk_drew ?_ | refine blk_alloc ?_ _)); exact BK409.out⟩; have m4_ : Aside0 ((((((w33.setCell ⟨gb412, 0, none⟩ (.int .i64 (-1))).setCell ⟨gb412, 1, none⟩ (.int .i64 (-1))).setCell ⟨gb412, 2, none⟩ (.bool t411)).setCell ⟨gb412, 0, none⟩ (.int .i64 (((bt (rdOf ByteArray.empty x3_1 x7_2) (ji24)) - 97) % 256))).drewN nd).heap[gb412]? = some (.cells #[.int .i64 (((bt (rdOf ByteArray.empty x3_1 x7_2) (ji24)) - 97) % 256), .int .i64 (-1), .bool t411] 46 (0, 0))) := ⟨by (with_reducible repeat (first | refine blk_drewN ?_ _ | refine blk_drew ?_ | refine blk_alloc ?_ _)); refine blk_put (cs := #[.int .i64 (-1), .int .i64 (-1), .bool t411]) ?_ 0 _ rfl; (with_reducible repeat (first | refine blk_drewN ?_ _ | refine blk_drew ?_ | refine blk_alloc ?_ _)); refine blk_put (cs := #[.int .i64 (-1), .int .i64 (-1), .bool false]) ?_ 2 _ rfl; (with_reducible repeat (first | refine blk_drewN ?_ _ | refine blk_drew ?_ | refine blk_alloc ?_ _)); refine blk_put (cs := #[.int .i64 (-1), .int .i64 0, .bool false]) ?_ 1 _ rfl; (with_reducible repeat (first | refine blk_drewN ?_ _ | refine blk_drew ?_ | refine blk_alloc ?_ _)); refine blk_put (cs := #[.int .i64 0, .int .i64 0, .bool false]) ?_ 0 _ rfl; (with_reducible repeat (first | refine blk_drewN ?_ _ | refine blk_drew ?_ | refine blk_alloc ?_ _)); exact BK412.out⟩; have m5_ : Aside0 (Below w.heap.size w (((((w33.setCell ⟨gb412, 0, none⟩ (.int .i64 (-1))).setCell ⟨gb412, 1, none⟩ (.int .i64 (-1))).setCell ⟨gb412, 2, none⟩ (.bool t411)).setCell ⟨gb412, 0, none⟩ (.int .i64 (((bt (rdOf ByteArray.empty x3_1 x7_2) (ji24)) - 97) % 256))).drewN nd)) := ⟨by repeat (first | (with_reducible first | exact HB.out | apply below_alloc | apply pw_below_drewN | apply below_drew1 | refine below_set ?_ GW397.out | refine below_set ?_ GW409.out | refine below_set ?_ GW412.out) | exact HB.out)⟩; clear HO_3 HO_410000 BK397 BK409 BK412 HB; generalize (((((w33.setCell ⟨gb412, 0, none⟩ (.int .i64 (-1))).setCell ⟨gb412, 1, none⟩ (.int .i64 (-1))).setCell ⟨gb412, 2, none⟩ (.bool t411)).setCell ⟨gb412, 0, none⟩ (.int .i64 (((bt (rdOf ByteArray.empty x3_1 x7_2) (ji24)) - 97) % 256))).drewN nd) = w339 at m0_ m1_ m2_ m3_ m4_ m5_ ⊢; have HO_3 := m0_; have HO_410000 := m1_; have BK397 := m2_; have BK409 := m3_; have BK412 := m4_; have HB := m5_; clear m0_ m1_ m2_ m3_ m4_ m5_; have hczz_0 : w339.cell? ⟨gb412, 0, none⟩ = some (.int .i64 (((bt (rdOf ByteArray.empty x3_1 x7_2) (ji24)) - 97) % 256)) := (blk_cell BK412.out 0).trans rfl; have hfzz_0 := blk_frozen BK412.out 0; have hczz_1 : w339.cell? ⟨gb412, 1, none⟩ = some (.int .i64 (-1)) := (blk_cell BK412.out 1).trans rfl; have hfzz_1 := blk_frozen BK412.out 1; have hczz_2 : w339.cell? ⟨gb412, 2, none⟩ = some (.bool t411) := (blk_cell BK412.out 2).trans rfl; have hfzz_2 := blk_frozen BK412.out 2; have hnb37 := NB409_397.out; have hnc37 := NB397_409.out; have hcz38_0 : w339.cell? ⟨gb409, 0, none⟩ = some (u410000) := (blk_cell BK409.out 0).trans rfl; have hfz38_0 := blk_frozen BK409.out 0) | ((with_reducible refine gate_builtin (b := .append) (xs := #[.tmp 69, .tmp 71]) rfl ?_); at_builtin; refine Kd.R_append k46 (w0 := w) w.heap.size rfl (.tmp 69) (.tmp 71) 39 46 (.agg #[(.int .i64 0), (.int .i64 0), (.bool false)]) 24 rfl Tryz.underlying39 info46 rfl (by decide) (by omega) u410000 x410000_2 (⟨((bt (rdOf ByteArray.empty x3_1 x7_2) (ji24)) - 97) % 256, t413, t411⟩ : S46) [.int .i64 (((bt (rdOf ByteArray.empty x3_1 x7_2) (ji24)) - 97) % 256), .int .i64 t413, .bool t411] (fun k_ => k_ ≠ gb412) (fun _ => False) rfl (by first | (go_simp; done) | (go_simp; rfl)) ?aP (fun _ hk => hk.elim) ?aF ?aO ?aB ?aS ?aL ?_; (case aP => exact k46_mkM _ _ _ (⟨((bt (rdOf ByteArray.empty x3_1 x7_2) (ji24)) - 97) % 256, t413, t411⟩ : S46)); (case aB => exact (by repeat (first | (with_reducible first | exact HB.out | apply below_alloc | apply pw_below_drewN | apply below_drew1 | refine below_set ?_ GW397.out | refine below_set ?_ GW409.out | refine below_set ?_ GW412.out) | exact HB.out))); (case aF => exact (fun k_ hk => Kd.freshB (g := gb412) (o := .cells #[.int .i64 (((bt (rdOf ByteArray.empty x3_1 x7_2) (ji24)) - 97) % 256), .int .i64 t413, .bool t411] 46 (0, 0)) (by (with_reducible repeat (first | refine blk_drewN ?_ _ | refine blk_drew ?_ | refine blk_alloc ?_ _)); refine blk_put (cs := #[.int .i64 (((bt (rdOf ByteArray.empty x3_1 x7_2) (ji24)) - 97) % 256), .int .i64 (-1), .bool t411]) ?_ 1 _ rfl; (with_reducible repeat (first | refine blk_drewN ?_ _ | refine blk_drew ?_ | refine blk_alloc ?_ _)); exact BK412.out) k_ hk)); (case aO => exact (by (with_reducible repeat (first | apply Kd.R_alloc | apply Kd.R_drewN | apply Kd.R_drew)); exact Kd.R_mono (Kd.R_far (p := ⟨gb412, 1, none⟩) (Kd.R_mono HO_410000.out (fun k_ hk => (⟨hk, hk.2⟩ : _ ∧ k_ ≠ gb412))) (fun _ hk => hk.2) (.int .i64 t413)) (fun _ hk => hk.1.2))); (case aS => exact (below_size (by repeat (first | (with_reducible first | exact HB.out | apply below_alloc | apply pw_below_drewN | apply below_drew1 | refine below_set ?_ GW397.out | refine below_set ?_ GW409.out | refine below_set ?_ GW412.out) | exact HB.out)))); (case aL => have := LMc31.out; omega); intro v415 w39 ho hb hg hat; rw [← Ny414.out] at ho; have n0_ := Aside0.mk (Kd.R_over' (by (with_reducible repeat (first | apply Kd.R_alloc | apply Kd.R_drewN | apply Kd.R_drew)); exact (Kd.R_mono (Kd.R_far (p := ⟨gb412, 1, none⟩) (Kd.R_types HO_3.out BK412.out (by decide)) (fun _ hk => hk.2) (.int .i64 t413)) (fun _ h_ => h_.1))) (Kd.R_typed (by (with_reducible repeat (first | apply Kd.R_alloc | apply Kd.R_drewN | apply Kd.R_drew)); exact (Kd.R_mono (Kd.R_far (p := ⟨gb412, 1, none⟩) (Kd.R_mono HO_410000.out (fun k_ hk => (⟨hk, hk.2⟩ : _ ∧ k_ ≠ gb412))) (fun _ hk => hk.2) (.int .i64 t413)) (fun _ h_ => h_.1)))) (by decide) hg); have n1_ := Aside0.mk (blk_grown (g := gb397) (o := .cells #[.slice none 0 0] 41 (0, 0)) (by (with_reducible repeat (first | refine blk_drewN ?_ _ | refine blk_drew ?_ | refine blk_alloc ?_ _)); refine blk_far ?_ NB397_412.out _; (with_reducible repeat (first | refine blk_drewN ?_ _ | refine blk_drew ?_ | refine blk_alloc ?_ _)); exact BK397.out) hg (Kd.R_ne HO_410000.out BK397.out (by decide))); have n2_ := Aside0.mk (blk_grown (g := gb409) (o := .cells #[u410000] 41 (0, 0)) (by (with_reducible repeat (first | refine blk_drewN ?_ _ | refine blk_drew ?_ | refine blk_alloc ?_ _)); refine blk_far ?_ NB409_412.out _; (with_reducible repeat (first | refine blk_drewN ?_ _ | refine blk_drew ?_ | refine blk_alloc ?_ _)); exact BK409.out) hg (Kd.R_ne HO_410000.out BK409.out (by decide))); have n3_ := Aside0.mk (blk_grown (g := gb412) (o := .cells #[.int .i64 (((bt (rdOf ByteArray.empty x3_1 x7_2) (ji24)) - 97) % 256), .int .i64 t413, .bool t411] 46 (0, 0)) (by (with_reducible repeat (first | refine blk_drewN ?_ _ | refine blk_drew ?_ | refine blk_alloc ?_ _)); refine blk_put (cs := #[.int .i64 (((bt (rdOf ByteArray.empty x3_1 x7_2) (ji24)) - 97) % 256), .int .i64 (-1), .bool t411]) ?_ 1 _ rfl; (with_reducible repeat (first | refine blk_drewN ?_ _ | refine blk_drew ?_ | refine blk_alloc ?_ _)); exact BK412.out) hg (Kd.R_away HO_410000.out (fun _ hk => hk.2))); have n4_ := Aside0.mk (hb); have n5_ := Aside0.mk (ho); clear HO_3; clear BK397; clear BK409; clear BK412; clear HB; clear HO_410000; have HO_3 := n0_; have BK397 := n1_; have BK409 := n2_; have BK412 := n3_; have HB := n4_; have HO416 := n5_; clear n0_ n1_ n2_ n3_ n4_ n5_; clear ho hb hg hat; obtain ⟨Ao40, co40, eo40⟩ := Kd.R_slice HO416.out; subst eo40; have hcz41_0 : w39.cell? ⟨gb409, 0, none⟩ = some (u410000) := (blk_cell BK409.out 0).trans rfl; have hfz41_0 := blk_frozen BK409.out 0))
   go_roundg k2
   case measure => have := HK1.out; have := HK2.out; omega
   case rel => exact ⟨(wrap64 (x7_2 + 1)), (y414), (.slice Ao40 y414.length co40), (by first | rfl | (simp; done) | (simp [*]; done)), H', ⟨by have := HK1.out; have := HK2.out; omega⟩, ⟨by (with_reducible repeat (first | apply Kd.R_alloc | apply Kd.R_drewN | apply Kd.R_drew)); exact Kd.R_mono (Kd.R_far (p := ⟨gb409, 0, none⟩) (Kd.R_types HO_3.out BK409.out (by decide)) (fun _ hk => hk.2) (.slice Ao40 y414.length co40)) (fun _ hk => trivial)⟩, ⟨by (with_reducible repeat (first | apply Kd.R_alloc | apply Kd.R_drewN | apply Kd.R_drew)); exact Kd.R_mono (Kd.R_far (p := ⟨gb409, 0, none⟩) (Kd.R_types HO416.out BK409.out (by decide)) (fun _ hk => hk.2) (.slice Ao40 y414.length co40)) (fun _ hk => trivial)⟩, ⟨by (with_reducible repeat (first | refine blk_drewN ?_ _ | refine blk_drew ?_ | refine blk_alloc ?_ _)); refine blk_far ?_ NB397_409.out _; (with_reducible repeat (first | refine blk_drewN ?_ _ | refine blk_drew ?_ | refine blk_alloc ?_ _)); exact BK397.out⟩, ⟨by (with_reducible repeat (first | refine blk_drewN ?_ _ | refine blk_drew ?_ | refine blk_alloc ?_ _)); refine blk_put (cs := #[u410000]) ?_ 0 _ rfl; (with_reducible repeat (first | refine blk_drewN ?_ _ | refine blk_drew ?_ | refine blk_alloc ?_ _)); exact BK409.out⟩, ⟨by repeat (first | (with_reducible first | exact HB.out | apply below_alloc | apply pw_below_drewN | apply below_drew1 | refine below_set ?_ GW397.out | refine below_set ?_ GW409.out | refine below_set ?_ GW412.out) | exact HB.out)⟩⟩
def sF44.j0 : Nat → ByteArray → Bool → Option ((List (S46)) × Bool)
 | 0, _, _ => none
 | k + 1, x0, x12 => if x12 = true then (some (([] : List (S46)), false)) else ((sF65.f k x0).bind fun t422 => ((sF59.f t422 (⟨#[]⟩ : ByteArray)).bind fun t425 => (if (t425.length : Int) > 40 then (some (([] : List (S46)), false)) else ((sF56.f k t425).bind fun t428 => (some (t428, true))))))
def sF44.f (k : Nat) (a0 : ByteArray) : Option ((List (S46)) × Bool) := (sF66.f k a0).bind fun t421 => (if t421 = true then (sF44.j0 k a0 (decide ((a0.size : Int) > 12))) else (sF44.j0 k a0 true))
theorem sF44.mono_l : ∀ k, (∀ y0 y1, LeO (sF44.j0 k y0 y1) (sF44.j0 (k + 1) y0 y1))
 | 0 => fun _ _ r h => by simp [sF44.j0] at h
 | k + 1 => by
  have ih0 := sF44.mono_l k
  intro y0 y1
  unfold sF44.j0
  repeat' with_reducible first | exact ih0 _ _ | exact sF56.mono _ _ | exact sF65.mono _ _ | exact sF66.mono _ _ | exact LeO.refl _ | exact LeO.none _ | refine LeO.ite ?_ ?_ | refine LeO.bind ?_ (fun _ => ?_)
theorem sF44.mono : ∀ a0 k, LeO (sF44.f k a0) (sF44.f (k + 1) a0) := by
 intro a0 k
 have ih0 := sF44.mono_l k
 unfold sF44.f
 repeat' with_reducible first | exact ih0 _ _ | exact sF56.mono _ _ | exact sF65.mono _ _ | exact sF66.mono _ _ | exact LeO.refl _ | exact LeO.none _ | refine LeO.ite ?_ ?_ | refine LeO.bind ?_ (fun _ => ?_)
theorem sF44.calls (k : Nat) (a0 : ByteArray) (r1 : List (S46)) (r2 : Bool) (w : World) (h : sF44.f k a0 = some (r1, r2)) :
  Calls Tryz.prog 24 #[.string a0] w fun e w' => ∃ v0_ : Value, e = .returned (.tuple #[.agg #[v0_], .bool r2]) ∧ Kd.R k46 46 w' w.heap.size (fun _ => True) v0_ r1 ∧ Below w.heap.size w w' := by
 have hu41 := Tryz.underlying41
 have HB := Aside0.mk (Below.refl w.heap.size w)
 have H : ((sF66.f k a0).bind fun t421 => (if t421 = true then (sF44.j0 k a0 (decide ((a0.size : Int) > 12))) else (sF44.j0 k a0 true))) = some (r1, r2) := h
 clear h
 have HC2 := Aside0.mk H
 clear H
 go_enter Tryz.func24, Tryz.ntmps24
 go_upto_region 1 with (first | ((with_reducible refine gate_dst (N := 2) rfl ?_); (try (refine gate_guard (by rfl) ?_; dsimp only)); refine box_event ?hg (N := 2) ?hd (cs := #[.slice none 0 0]) (t := 41) ?hr ?_; (case hd => rfl); (case hg => rfl); (case hr => first | (go_simp; done) | (go_simp; rfl)); intro gb420 hg w3 hbox hb; have n0_ := Aside0.mk (below_step (by repeat (first | (with_reducible first | exact HB.out | apply below_alloc | apply pw_below_drewN | apply below_drew1) | exact HB.out)) hb); have n1_ := Aside0.mk (hbox); have n2_ := Aside0.mk ((by rw [hg]; exact (below_size (by repeat (first | (with_reducible first | exact HB.out | apply below_alloc | apply pw_below_drewN | apply below_drew1) | exact HB.out))) : w.heap.size ≤ gb420)); have n3_ := Aside0.mk ((by rw [hg]; exact (below_size (by repeat (first | (with_reducible first | exact HB.out | apply below_alloc | apply pw_below_drewN | apply below_drew1) | exact HB.out))) : w.heap.size ≤ gb420)); clear HB; have HB := n0_; have BK420 := n1_; have GW420 := n2_; have GW420 := n3_; clear n0_ n1_ n2_ n3_; clear hb hbox hg))
 (try simp only [Act.put, List.setIfInBounds_toArray, List.set_cons_zero, List.set_cons_succ])
 go_cut [12] (fun v12 wc => ∃ (kq : Nat) (x12_1 : Bool), v12 = .bool x12_1 ∧ Aside0 (sF44.j0 kq a0 x12_1 = some (r1, r2)) ∧ Aside0 (kq ≤ k) ∧ Aside0 (wc.heap[gb420]? = some (.cells #[(.slice none 0 0)] 41 (0, 0))) ∧ Aside0 (Below w.heap.size w wc))
 case first =>
  have H := HC2.out
  clear HC2
  replace H := Option.bind_eq_some_iff.mp H
  obtain ⟨t421, A40, H⟩ := H
  replace H : (if t421 = true then (sF44.j0 k a0 (decide ((a0.size : Int) > 12))) else (sF44.j0 k a0 true)) = some (r1, r2) := H
  have A4 := Aside0.mk A40
  clear A40
  by_cases c5 : t421 = true
  ·
   subst c5
   replace H : (sF44.j0 k a0 (decide ((a0.size : Int) > 12))) = some (r1, r2) := by rw [if_pos rfl] at H; exact H
   have H' := Aside0.mk H
   clear H
   go_wp2_with (first | ((with_reducible refine gate_callee (f := 45) rfl ?_); refine goesL_ (some 6) rfl rfl Tryz.func45 (by kernel_rfl) rfl #[.string a0] rfl (by (try simp only [List.map_toArray, List.map_cons, List.map_nil]); first | done | rfl | (simp only [List.length_drop, List.length_take]; rfl)) ?_; (with_reducible refine (sF66.calls k a0 true _ A4.out).mono ?_); rintro e w' ⟨rfl, ⟨nd, rfl⟩⟩; refine ⟨_, rfl, ?_⟩))
   go_meet
   case rel => exact ⟨_, (decide ((a0.size : Int) > 12)), (by first | rfl | (simp; done) | (simp [*]; done)), H', ⟨by first | omega | exact Nat.le_refl _⟩, ⟨by (with_reducible repeat (first | refine blk_drewN ?_ _ | refine blk_drew ?_ | refine blk_alloc ?_ _)); exact BK420.out⟩, ⟨by repeat (first | (with_reducible first | exact HB.out | apply below_alloc | apply pw_below_drewN | apply below_drew1 | refine below_set ?_ GW420.out) | exact HB.out)⟩⟩
  replace c5 := Bool.eq_false_iff.mpr c5
  subst c5
  replace H : (sF44.j0 k a0 true) = some (r1, r2) := by rw [if_neg (show ¬ (false = true) by decide)] at H; exact H
  have H' := Aside0.mk H
  clear H
  go_wp2_with (first | ((with_reducible refine gate_callee (f := 45) rfl ?_); refine goesL_ (some 6) rfl rfl Tryz.func45 (by kernel_rfl) rfl #[.string a0] rfl (by (try simp only [List.map_toArray, List.map_cons, List.map_nil]); first | done | rfl | (simp only [List.length_drop, List.length_take]; rfl)) ?_; (with_reducible refine (sF66.calls k a0 false _ A4.out).mono ?_); rintro e w' ⟨rfl, ⟨nd, rfl⟩⟩; refine ⟨_, rfl, ?_⟩))
  go_meet
  case rel => exact ⟨_, (true), (by first | rfl | (simp; done) | (simp [*]; done)), H', ⟨by first | omega | exact Nat.le_refl _⟩, ⟨by (with_reducible repeat (first | refine blk_drewN ?_ _ | refine blk_drew ?_ | refine blk_alloc ?_ _)); exact BK420.out⟩, ⟨by repeat (first | (with_reducible first | exact HB.out | apply below_alloc | apply pw_below_drewN | apply below_drew1 | refine below_set ?_ GW420.out) | exact HB.out)⟩⟩
 clear HC2
 try clear c2
 try clear p2
 try clear c4
 try clear c5
 obtain ⟨kq, x12_1, rfl, HA, HJ1, BK420, HB⟩ := hcut
 cases kq with
 | zero => exact absurd HA.out (by simp [sF44.j0])
 | succ kj1 =>
  have H := HA.out
  clear HA
  simp only [sF44.j0] at H
  by_cases c6 : x12_1 = true
  ·
   subst c6
   replace H : (some (([] : List (S46)), false)) = some (r1, r2) := by rw [if_pos rfl] at H; exact H
   simp only [Option.some.injEq, Prod.mk.injEq] at H
   obtain ⟨rfl, rfl⟩ := H
   have hcz7_0 : wc.cell? ⟨gb420, 0, none⟩ = some (.slice none 0 0) := (blk_cell BK420.out 0).trans rfl
   have hfz7_0 := blk_frozen BK420.out 0
   go_wp2
   refine bodyPost_ret (results_ct rfl _ _ gb420 41 #[.slice none 0 0] (0, 0) _ rfl (by (with_reducible repeat (first | refine blk_drewN ?_ _ | refine blk_drew ?_ | refine blk_alloc ?_ _)); refine blk_put (cs := #[.slice none 0 0]) ?_ 0 _ rfl; (with_reducible repeat (first | refine blk_drewN ?_ _ | refine blk_drew ?_ | refine blk_alloc ?_ _)); exact BK420.out) Tryz.underlying41 rfl (by kernel_rfl)) rfl ?_
   exact ⟨_, by first | rfl | (simp [errW_none, errW_some] <;> rfl) | (simp [*, errW_none, errW_some] <;> rfl), by first | exact Kd.R_nil _ _ _ _ _ | exact Kd.N_nil _ _ _ _ _ | exact Kd.V_nil _ _ _ _ _ | exact Kd.Q_nil _ _ _ _ _ | exact Kd.S_nil _ _ _ _ _, by repeat (first | (with_reducible first | exact HB.out | apply below_alloc | apply pw_below_drewN | apply below_drew1 | refine below_set ?_ GW420.out) | exact HB.out)⟩
  replace c6 := Bool.eq_false_iff.mpr c6
  subst c6
  replace H : ((sF65.f kj1 a0).bind fun t422 => ((sF59.f t422 (⟨#[]⟩ : ByteArray)).bind fun t425 => (if (t425.length : Int) > 40 then (some (([] : List (S46)), false)) else ((sF56.f kj1 t425).bind fun t428 => (some (t428, true)))))) = some (r1, r2) := by rw [if_neg (show ¬ (false = true) by decide)] at H; exact H
  replace H := Option.bind_eq_some_iff.mp H
  obtain ⟨t422, A80, H⟩ := H
  replace H : ((sF59.f t422 (⟨#[]⟩ : ByteArray)).bind fun t425 => (if (t425.length : Int) > 40 then (some (([] : List (S46)), false)) else ((sF56.f kj1 t425).bind fun t428 => (some (t428, true))))) = some (r1, r2) := H
  have A8 := Aside0.mk A80
  clear A80
  replace H := Option.bind_eq_some_iff.mp H
  obtain ⟨t425, A90, H⟩ := H
  replace H : (if (t425.length : Int) > 40 then (some (([] : List (S46)), false)) else ((sF56.f kj1 t425).bind fun t428 => (some (t428, true)))) = some (r1, r2) := H
  have A9 := Aside0.mk A90
  clear A90
  by_cases c10 : (t425.length : Int) > 40
  ·
   rw [if_pos c10] at H
   have c10b0 : decide (40 < (t425.length : Int)) = true := dT_ c10
   have c10b1 : decide (40 < t425.length) = true := dT_ (by omega)
   clear c10
   simp only [Option.some.injEq, Prod.mk.injEq] at H
   obtain ⟨rfl, rfl⟩ := H
   go_wp2_with (first | ((with_reducible refine gate_callee (f := 47) rfl ?_); refine goesL_ (some 15) rfl rfl Tryz.func47 (by kernel_rfl) rfl #[.string a0] rfl (by (try simp only [List.map_toArray, List.map_cons, List.map_nil]); first | done | rfl | (simp only [List.length_drop, List.length_take]; rfl)) ?_; (with_reducible refine (sF65.calls kj1 a0 t422 _ A8.out).mono ?_); rintro e w11 ⟨v423, rfl, ho0, hb⟩; refine ⟨_, rfl, ?_⟩; have n0_ := Aside0.mk (Kd.R_lower ho0 (below_size (by repeat (first | (with_reducible first | exact HB.out | apply below_alloc | apply pw_below_drewN | apply below_drew1 | refine below_set ?_ GW420.out) | exact HB.out)))); have n1_ := Aside0.mk (blk_below (g := gb420) (o := .cells #[.slice none 0 0] 41 (0, 0)) (by (with_reducible repeat (first | refine blk_drewN ?_ _ | refine blk_drew ?_ | refine blk_alloc ?_ _)); exact BK420.out) hb); have n2_ := Aside0.mk (below_step (by repeat (first | (with_reducible first | exact HB.out | apply below_alloc | apply pw_below_drewN | apply below_drew1 | refine below_set ?_ GW420.out) | exact HB.out)) hb); clear BK420; clear HB; have HO424 := n0_; have BK420 := n1_; have HB := n2_; clear n0_ n1_ n2_; (try clear hb); (try clear hb2); (try clear hk); (try clear hi); (try clear ho0); obtain ⟨Ao12, co12, eo12⟩ := Kd.R_slice HO424.out; subst eo12) | ((with_reducible refine gate_callee (f := 61) rfl ?_); refine goesL_ (some 16) rfl rfl Tryz.func61 (by kernel_rfl) rfl #[.slice Ao12 t422.length co12, .string (⟨#[]⟩ : ByteArray)] rfl (by (try simp only [List.map_toArray, List.map_cons, List.map_nil]); first | done | rfl | (simp only [List.length_drop, List.length_take]; rfl)) ?_; (with_reducible refine (sF59.calls (fun k_ => some k_ = (.slice Ao12 t422.length co12 : Value).ownBlock) (.slice Ao12 t422.length co12) t422 (⟨#[]⟩ : ByteArray) t425 w _ ?side1 ?side2 A9.out).mono ?_); (case side1 => repeat (first | (with_reducible first | exact HB.out | apply below_alloc | apply pw_below_drewN | apply below_drew1 | refine below_set ?_ GW420.out) | exact HB.out)); (case side2 => exact Kd.R_tight rfl HO424.out); rintro e w13 ⟨v426, rfl, ho0, hb, hkp⟩; refine ⟨_, rfl, ?_⟩; have n0_ := Aside0.mk (blk_kept (by (with_reducible repeat (first | refine blk_drewN ?_ _ | refine blk_drew ?_ | refine blk_alloc ?_ _)); exact BK420.out) hkp (fun hs_ => (fun e_ => (Kd.R_ne HO424.out BK420.out (by decide)) e_) hs_)); have n1_ := Aside0.mk (Kd.R_mono (ok' := fun k_ => True) ho0 (fun k_ hk_ => trivial)); have n2_ := Aside0.mk (hb); clear BK420; clear HB; clear HO424; have BK420 := n0_; have HO427 := n1_; have HB := n2_; clear n0_ n1_ n2_; (try clear hb); (try clear hkp); (try clear ho0); obtain ⟨Ao14, co14, eo14⟩ := Kd.R_slice HO427.out; subst eo14; have hcz15_0 : w13.cell? ⟨gb420, 0, none⟩ = some (.slice none 0 0) := (blk_cell BK420.out 0).trans rfl; have hfz15_0 := blk_frozen BK420.out 0))
   refine bodyPost_ret (results_ct rfl _ _ gb420 41 #[.slice none 0 0] (0, 0) _ rfl (by (with_reducible repeat (first | refine blk_drewN ?_ _ | refine blk_drew ?_ | refine blk_alloc ?_ _)); refine blk_put (cs := #[.slice none 0 0]) ?_ 0 _ rfl; (with_reducible repeat (first | refine blk_drewN ?_ _ | refine blk_drew ?_ | refine blk_alloc ?_ _)); exact BK420.out) Tryz.underlying41 rfl (by kernel_rfl)) rfl ?_
   exact ⟨_, by first | rfl | (simp [errW_none, errW_some] <;> rfl) | (simp [*, errW_none, errW_some] <;> rfl), by first | exact Kd.R_nil _ _ _ _ _ | exact Kd.N_nil _ _ _ _ _ | exact Kd.V_nil _ _ _ _ _ | exact Kd.Q_nil _ _ _ _ _ | exact Kd.S_nil _ _ _ _ _, by repeat (first | (with_reducible first | exact HB.out | apply below_alloc | apply pw_below_drewN | apply below_drew1 | refine below_set ?_ GW420.out) | exact HB.out)⟩
  rw [if_neg c10] at H
  have c10b0 : decide (40 < (t425.length : Int)) = false := dF_ c10
  have c10b1 : decide (40 < t425.length) = false := dF_ (by omega)
  clear c10
  replace H := Option.bind_eq_some_iff.mp H
  obtain ⟨t428, A160, H⟩ := H
  replace H : (some (t428, true)) = some (r1, r2) := H
  have A16 := Aside0.mk A160
  clear A160
  simp only [Option.some.injEq, Prod.mk.injEq] at H
  obtain ⟨rfl, rfl⟩ := H
  go_wp2_with (first | ((with_reducible refine gate_callee (f := 47) rfl ?_); refine goesL_ (some 15) rfl rfl Tryz.func47 (by kernel_rfl) rfl #[.string a0] rfl (by (try simp only [List.map_toArray, List.map_cons, List.map_nil]); first | done | rfl | (simp only [List.length_drop, List.length_take]; rfl)) ?_; (with_reducible refine (sF65.calls kj1 a0 t422 _ A8.out).mono ?_); rintro e w17 ⟨v423, rfl, ho0, hb⟩; refine ⟨_, rfl, ?_⟩; have n0_ := Aside0.mk (Kd.R_lower ho0 (below_size (by repeat (first | (with_reducible first | exact HB.out | apply below_alloc | apply pw_below_drewN | apply below_drew1 | refine below_set ?_ GW420.out) | exact HB.out)))); have n1_ := Aside0.mk (blk_below (g := gb420) (o := .cells #[.slice none 0 0] 41 (0, 0)) (by (with_reducible repeat (first | refine blk_drewN ?_ _ | refine blk_drew ?_ | refine blk_alloc ?_ _)); exact BK420.out) hb); have n2_ := Aside0.mk (below_step (by repeat (first | (with_reducible first | exact HB.out | apply below_alloc | apply pw_below_drewN | apply below_drew1 | refine below_set ?_ GW420.out) | exact HB.out)) hb); clear BK420; clear HB; have HO424 := n0_; have BK420 := n1_; have HB := n2_; clear n0_ n1_ n2_; (try clear hb); (try clear hb2); (try clear hk); (try clear hi); (try clear ho0); obtain ⟨Ao18, co18, eo18⟩ := Kd.R_slice HO424.out; subst eo18) | ((with_reducible refine gate_callee (f := 61) rfl ?_); refine goesL_ (some 16) rfl rfl Tryz.func61 (by kernel_rfl) rfl #[.slice Ao18 t422.length co18, .string (⟨#[]⟩ : ByteArray)] rfl (by (try simp only [List.map_toArray, List.map_cons, List.map_nil]); first | done | rfl | (simp only [List.length_drop, List.length_take]; rfl)) ?_; (with_reducible refine (sF59.calls (fun k_ => some k_ = (.slice Ao18 t422.length co18 : Value).ownBlock) (.slice Ao18 t422.length co18) t422 (⟨#[]⟩ : ByteArray) t425 w _ ?side1 ?side2 A9.out).mono ?_); (case side1 => repeat (first | (with_reducible first | exact HB.out | apply below_alloc | apply pw_below_drewN | apply below_drew1 | refine below_set ?_ GW420.out) | exact HB.out)); (case side2 => exact Kd.R_tight rfl HO424.out); rintro e w19 ⟨v426, rfl, ho0, hb, hkp⟩; refine ⟨_, rfl, ?_⟩; have n0_ := Aside0.mk (blk_kept (by (with_reducible repeat (first | refine blk_drewN ?_ _ | refine blk_drew ?_ | refine blk_alloc ?_ _)); exact BK420.out) hkp (fun hs_ => (fun e_ => (Kd.R_ne HO424.out BK420.out (by decide)) e_) hs_)); have n1_ := Aside0.mk (Kd.R_mono (ok' := fun k_ => True) ho0 (fun k_ hk_ => trivial)); have n2_ := Aside0.mk (hb); clear BK420; clear HB; clear HO424; have BK420 := n0_; have HO427 := n1_; have HB := n2_; clear n0_ n1_ n2_; (try clear hb); (try clear hkp); (try clear ho0); obtain ⟨Ao20, co20, eo20⟩ := Kd.R_slice HO427.out; subst eo20) | ((with_reducible refine gate_callee (f := 62) rfl ?_); refine goesL_ (some 22) rfl rfl Tryz.func62 (by kernel_rfl) rfl #[.slice Ao20 t425.length co20] rfl (by (try simp only [List.map_toArray, List.map_cons, List.map_nil]); first | done | rfl | (simp only [List.length_drop, List.length_take]; rfl)) ?_; (with_reducible refine (sF56.calls kj1 _ _ t425 t428 _ ?side1 ?side2 A16.out).mono ?_); (case side1 => repeat (first | exact (Kd.R_reads' HO427.out).2.2 | with_reducible first | apply cA_ | apply cN_ | apply cD_)); (case side2 => exact (Kd.R_reads' HO427.out).2.1); rintro e w21 ⟨v429, rfl, ho0, hb⟩; refine ⟨_, rfl, ?_⟩; have n0_ := Aside0.mk (Kd.R_below (by (with_reducible repeat (first | apply Kd.R_alloc | apply Kd.R_drewN | apply Kd.R_drew)); exact HO427.out) hb); have n1_ := Aside0.mk (Kd.R_lower ho0 (below_size (by repeat (first | (with_reducible first | exact HB.out | apply below_alloc | apply pw_below_drewN | apply below_drew1 | refine below_set ?_ GW420.out) | exact HB.out)))); have n2_ := Aside0.mk (blk_below (g := gb420) (o := .cells #[.slice none 0 0] 41 (0, 0)) (by (with_reducible repeat (first | refine blk_drewN ?_ _ | refine blk_drew ?_ | refine blk_alloc ?_ _)); exact BK420.out) hb); have n3_ := Aside0.mk (below_step (by repeat (first | (with_reducible first | exact HB.out | apply below_alloc | apply pw_below_drewN | apply below_drew1 | refine below_set ?_ GW420.out) | exact HB.out)) hb); clear HO427; clear BK420; clear HB; have HO427 := n0_; have HO430 := n1_; have BK420 := n2_; have HB := n3_; clear n0_ n1_ n2_ n3_; (try clear hb); (try clear hb2); (try clear hk); (try clear hi); (try clear ho0); obtain ⟨Ao22, co22, eo22⟩ := Kd.R_slice HO430.out; subst eo22; have hcz23_0 : w21.cell? ⟨gb420, 0, none⟩ = some (.slice none 0 0) := (blk_cell BK420.out 0).trans rfl; have hfz23_0 := blk_frozen BK420.out 0))
  refine bodyPost_ret (results_ct rfl _ _ gb420 41 #[.slice Ao22 t428.length co22] (0, 0) _ rfl (by (with_reducible repeat (first | refine blk_drewN ?_ _ | refine blk_drew ?_ | refine blk_alloc ?_ _)); refine blk_put (cs := #[.slice none 0 0]) ?_ 0 _ rfl; (with_reducible repeat (first | refine blk_drewN ?_ _ | refine blk_drew ?_ | refine blk_alloc ?_ _)); exact BK420.out) Tryz.underlying41 rfl (by kernel_rfl)) rfl ?_
  exact ⟨_, by first | rfl | (simp [errW_none, errW_some] <;> rfl) | (simp [*, errW_none, errW_some] <;> rfl), by (with_reducible repeat (first | apply Kd.R_alloc | apply Kd.R_drewN | apply Kd.R_drew)); exact Kd.R_mono (Kd.R_far (p := ⟨gb420, 0, none⟩) (Kd.R_types HO430.out BK420.out (by decide)) (fun _ hk => hk.2) (.slice Ao22 t428.length co22)) (fun _ hk => trivial), by repeat (first | (with_reducible first | exact HB.out | apply below_alloc | apply pw_below_drewN | apply below_drew1 | refine below_set ?_ GW420.out) | exact HB.out)⟩
def sF45.f (k : Nat) (a0 : ByteArray) : Option (List ByteArray × Bool) := (sF66.f k a0).bind fun t203 => (if t203 = true then ((sF65.f k a0).bind fun t204 => ((sF57.f t204).bind fun t207 => (some (t207, true)))) else (some ((([] : List ByteArray)), false)))
theorem sF45.mono : ∀ a0 k, LeO (sF45.f k a0) (sF45.f (k + 1) a0) := by
 intro a0 k
 unfold sF45.f
 repeat' with_reducible first | exact sF65.mono _ _ | exact sF66.mono _ _ | exact LeO.refl _ | exact LeO.none _ | refine LeO.ite ?_ ?_ | refine LeO.bind ?_ (fun _ => ?_)
theorem sF45.calls (k : Nat) (a0 : ByteArray) (r1 : List ByteArray) (r2 : Bool) (w : World) (h : sF45.f k a0 = some (r1, r2)) :
  Calls Tryz.prog 8 #[.string a0] w fun e w' => ∃ v0_ : Value, e = .returned (.tuple #[v0_, .bool r2]) ∧ Kd.R Kd.string 9 w' w.heap.size (fun _ => True) v0_ r1 ∧ Below w.heap.size w w' := by
 have HB := Aside0.mk (Below.refl w.heap.size w)
 have H : ((sF66.f k a0).bind fun t203 => (if t203 = true then ((sF65.f k a0).bind fun t204 => ((sF57.f t204).bind fun t207 => (some (t207, true)))) else (some ((([] : List ByteArray)), false)))) = some (r1, r2) := h
 clear h
 replace H := Option.bind_eq_some_iff.mp H
 obtain ⟨t203, A20, H⟩ := H
 replace H : (if t203 = true then ((sF65.f k a0).bind fun t204 => ((sF57.f t204).bind fun t207 => (some (t207, true)))) else (some ((([] : List ByteArray)), false))) = some (r1, r2) := H
 have A2 := Aside0.mk A20
 clear A20
 by_cases c3 : t203 = true
 ·
  subst c3
  replace H : ((sF65.f k a0).bind fun t204 => ((sF57.f t204).bind fun t207 => (some (t207, true)))) = some (r1, r2) := by rw [if_pos rfl] at H; exact H
  replace H := Option.bind_eq_some_iff.mp H
  obtain ⟨t204, A40, H⟩ := H
  replace H : ((sF57.f t204).bind fun t207 => (some (t207, true))) = some (r1, r2) := H
  have A4 := Aside0.mk A40
  clear A40
  replace H := Option.bind_eq_some_iff.mp H
  obtain ⟨t207, A50, H⟩ := H
  replace H : (some (t207, true)) = some (r1, r2) := H
  have A5 := Aside0.mk A50
  clear A50
  simp only [Option.some.injEq, Prod.mk.injEq] at H
  obtain ⟨rfl, rfl⟩ := H
  go_enter Tryz.func8, Tryz.ntmps8
  go_wp2_with (first | ((with_reducible refine gate_callee (f := 45) rfl ?_); refine goesL_ (some 5) rfl rfl Tryz.func45 (by kernel_rfl) rfl #[.string a0] rfl (by (try simp only [List.map_toArray, List.map_cons, List.map_nil]); first | done | rfl | (simp only [List.length_drop, List.length_take]; rfl)) ?_; (with_reducible refine (sF66.calls k a0 true _ A2.out).mono ?_); rintro e w' ⟨rfl, ⟨nd, rfl⟩⟩; refine ⟨_, rfl, ?_⟩) | ((with_reducible refine gate_callee (f := 47) rfl ?_); refine goesL_ (some 9) rfl rfl Tryz.func47 (by kernel_rfl) rfl #[.string a0] rfl (by (try simp only [List.map_toArray, List.map_cons, List.map_nil]); first | done | rfl | (simp only [List.length_drop, List.length_take]; rfl)) ?_; (with_reducible refine (sF65.calls k a0 t204 _ A4.out).mono ?_); rintro e w6 ⟨v205, rfl, ho0, hb⟩; refine ⟨_, rfl, ?_⟩; have n0_ := Aside0.mk (Kd.R_lower ho0 (below_size (by repeat (first | (with_reducible first | exact HB.out | apply below_alloc | apply pw_below_drewN | apply below_drew1) | exact HB.out)))); have n1_ := Aside0.mk (below_step (by repeat (first | (with_reducible first | exact HB.out | apply below_alloc | apply pw_below_drewN | apply below_drew1) | exact HB.out)) hb); clear HB; have HO206 := n0_; have HB := n1_; clear n0_ n1_; (try clear hb); (try clear hb2); (try clear hk); (try clear hi); (try clear ho0); obtain ⟨Ao7, co7, eo7⟩ := Kd.R_slice HO206.out; subst eo7) | ((with_reducible refine gate_callee (f := 46) rfl ?_); refine goesL_ (some 10) rfl rfl Tryz.func46 (by kernel_rfl) rfl #[.slice Ao7 t204.length co7] rfl (by (try simp only [List.map_toArray, List.map_cons, List.map_nil]); first | done | rfl | (simp only [List.length_drop, List.length_take]; rfl)) ?_; (with_reducible refine (sF57.calls _ _ t204 t207 _ ?side1 ?side2 A5.out).mono ?_); (case side1 => repeat (first | exact (Kd.R_reads' HO206.out).2.2 | with_reducible first | apply cA_ | apply cN_ | apply cD_)); (case side2 => exact (Kd.R_reads' HO206.out).2.1); rintro e w8 ⟨v208, rfl, ho0, hb⟩; refine ⟨_, rfl, ?_⟩; have n0_ := Aside0.mk (Kd.R_elder' (by (with_reducible repeat (first | apply Kd.R_alloc | apply Kd.R_drewN | apply Kd.R_drew)); exact HO206.out) (Kd.R_base ho0) hb); have n1_ := Aside0.mk (Kd.R_lower (Kd.R_new' ho0 (Kd.R_lt (by (with_reducible repeat (first | apply Kd.R_alloc | apply Kd.R_drewN | apply Kd.R_drew)); exact HO206.out))) (below_size (by repeat (first | (with_reducible first | exact HB.out | apply below_alloc | apply pw_below_drewN | apply below_drew1) | exact HB.out)))); have n2_ := Aside0.mk (below_step (by repeat (first | (with_reducible first | exact HB.out | apply below_alloc | apply pw_below_drewN | apply below_drew1) | exact HB.out)) hb); clear HO206; clear HB; have HO206 := n0_; have HO209 := n1_; have HB := n2_; clear n0_ n1_ n2_; (try clear hb); (try clear hb2); (try clear hk); (try clear hi); (try clear ho0)))
  go_ret2
  exact ⟨_, by first | rfl | (simp [errW_none, errW_some] <;> rfl) | (simp [*, errW_none, errW_some] <;> rfl), by (with_reducible repeat (first | apply Kd.R_alloc | apply Kd.R_drewN | apply Kd.R_drew)); exact Kd.R_mono HO209.out (fun _ hk => trivial), by repeat (first | (with_reducible first | exact HB.out | apply below_alloc | apply pw_below_drewN | apply below_drew1) | exact HB.out)⟩
 replace c3 := Bool.eq_false_iff.mpr c3
 subst c3
 replace H : (some ((([] : List ByteArray)), false)) = some (r1, r2) := by rw [if_neg (show ¬ (false = true) by decide)] at H; exact H
 obtain ⟨y210, hy210⟩ : ∃ y_ : List ByteArray, y_ = (([] : List ByteArray)) := ⟨_, rfl⟩
 replace H : (some (y210, false)) = some (r1, r2) := by (try rw [hy210]); first | with_reducible exact H | with_reducible exact oS_ H | exact H
 have Ny210 := Aside0.mk hy210
 clear hy210
 simp only [Option.some.injEq, Prod.mk.injEq] at H
 obtain ⟨rfl, rfl⟩ := H
 go_enter Tryz.func8, Tryz.ntmps8
 go_wp2_with (first | ((with_reducible refine gate_callee (f := 45) rfl ?_); refine goesL_ (some 5) rfl rfl Tryz.func45 (by kernel_rfl) rfl #[.string a0] rfl (by (try simp only [List.map_toArray, List.map_cons, List.map_nil]); first | done | rfl | (simp only [List.length_drop, List.length_take]; rfl)) ?_; (with_reducible refine (sF66.calls k a0 false _ A2.out).mono ?_); rintro e w' ⟨rfl, ⟨nd, rfl⟩⟩; refine ⟨_, rfl, ?_⟩) | ((with_reducible refine gate_dst (N := 7) rfl ?_); refine Kd.R_lit Kd.string _ 9 ?hg (N := 7) ?hd (xs := ([] : List ByteArray)) (inner := []) (ok := fun _ => True) (okp := fun _ => True) ?hr ?hp (fun _ hk => hk) trivial (Below.refl _ _) (Nat.le_refl _) (by simp) ?_; (case hd => rfl); (case hg => rfl); (case hr => first | (go_simp; done) | (go_simp; rfl)); (case hp => exact (Reps.none _ _)); intro v211 w9 ho10 hb hg_ hnew_; clear hg_ hnew_; (first | rw [← Ny210.out] at ho10 | (simp only [Int.reduceToNat] at ho10; rw [← Ny210.out] at ho10)); have n0_ := Aside0.mk (Kd.R_lower ho10 (below_size (by repeat (first | (with_reducible first | exact HB.out | apply below_alloc | apply pw_below_drewN | apply below_drew1) | exact HB.out)))); have n1_ := Aside0.mk (below_step (by repeat (first | (with_reducible first | exact HB.out | apply below_alloc | apply pw_below_drewN | apply below_drew1) | exact HB.out)) hb); clear HB; have HO212 := n0_; have HB := n1_; clear n0_ n1_; clear hb ho10))
 go_ret2
 exact ⟨_, by first | rfl | (simp [errW_none, errW_some] <;> rfl) | (simp [*, errW_none, errW_some] <;> rfl), by (with_reducible repeat (first | apply Kd.R_alloc | apply Kd.R_drewN | apply Kd.R_drew)); exact HO212.out, by repeat (first | (with_reducible first | exact HB.out | apply below_alloc | apply pw_below_drewN | apply below_drew1) | exact HB.out)⟩
end Go.Proofs.YtblcdgnihmcdpaaGreatDoor.P
