/-
  Part 5 of the proof that FnExactChanceBegins returns true for every input: the functions that it reaches, each with its contract, and the law.
  Conditions: those of the given statement, no others.
-/
import Derived.Test.YtgagmodkjmegeaaCFnExactChanceBeginsW0
import Derived.WalkKit
import Derived.ProofKit
import Derived.OpenShut
import Derived.Deep.Slices
import Derived.Deep.Fields
import Derived.ChangeSame
import Derived.Lib.SmallJoins
import Derived.Lib.SlicesCompact
import Derived.Lib.SliceRun
import Derived.Shelf.Abstract
import Derived.Test.YtgagmodkjmegeaaRows
import Derived.ShutString
import Derived.ChangeOld
import Derived.Below
import Derived.SizedLaws
import Derived.Test.YtgagmodkjmegeaaCFnExactChanceBegins0
import Derived.Test.YtgagmodkjmegeaaCFnExactChanceBegins3
import Derived.Test.YtgagmodkjmegeaaCFnExactChanceBegins2
import Derived.Test.YtgagmodkjmegeaaCFnExactChanceBegins1
set_option linter.unusedVariables false
set_option linter.unusedSimpArgs false
namespace Go.Proofs.Ytgagmodkjmegeaa.P
open Go.RowKit Go.Proofs.YtgagmodkjmegeaaW.PrintWords Go.Proofs.YtgagmodkjmegeaaW.PrintLast Go.Proofs.YtgagmodkjmegeaaW.PrintMore
attribute [local go_sem] max2_int min2_int max_two min_two max_three min_three max_four min_four
set_option linter.unusedVariables false
set_option linter.unusedSimpArgs false

/-! ### impl_ChanceBegins: function 32 -/
mutual
def impl_ChanceBegins.j0 : Nat → Int → Int → Bool → List (S80) → Option (Int × Int × Bool)
 | 0, _, _, _, _ => none
 | k + 1, x1, x2, x19, x766000 => if x19 = true then (some (0, 0, false)) else ((impl_Trie_words.f k x766000).bind fun t769 => (impl_ChanceBegins.l0 k x1 x2 0 t769 (t769.length : Int) 0 x766000))
def impl_ChanceBegins.l0 : Nat → Int → Int → Int → List ByteArray → Int → Int → List (S80) → Option (Int × Int × Bool)
 | 0, _, _, _, _, _, _, _ => none
 | k + 1, x1, x2, x8, x22, x23, x24, x766000 => if x24 < x23 then (if 0 ≤ x24 then (if x24 < (x22.length : Int) then (if ((rdOf ByteArray.empty x22 x24).size : Int) ≤ x2 then ((impl_isOf.f k (rdOf ByteArray.empty x22 x24) x1).bind fun t776 => (if t776 = true then ((impl_Trie_begins.f k x766000 (rdOf ByteArray.empty x22 x24)).bind fun t777 => (if t777 = true then (impl_ChanceBegins.l0 k x1 x2 x8 x22 x23 (wrap64 (x24 + 1)) x766000) else ((impl_power.f k x1 (wrap64 (x2 - ((rdOf ByteArray.empty x22 x24).size : Int)))).bind fun t778 => (impl_ChanceBegins.l0 k x1 x2 (wrap64 (x8 + t778)) x22 x23 (wrap64 (x24 + 1)) x766000)))) else (impl_ChanceBegins.l0 k x1 x2 x8 x22 x23 (wrap64 (x24 + 1)) x766000))) else (impl_ChanceBegins.l0 k x1 x2 x8 x22 x23 (wrap64 (x24 + 1)) x766000)) else (none)) else (none)) else ((impl_power.f k x1 x2).bind fun t772 => ((impl_fraction.f k x8 t772).bind fun bt773 => (some (bt773.1, bt773.2, true))))
end
def impl_ChanceBegins.f (k : Nat) (l0_0 : List (S80)) (a1 : Int) (a2 : Int) : Option (Int × Int × Bool) := (impl_isTrie.f k l0_0).bind fun t767 => (if t767 = true then ((impl_isRandom.f a1 a2).bind fun t768 => (impl_ChanceBegins.j0 k a1 a2 (!t768) l0_0)) else (impl_ChanceBegins.j0 k a1 a2 true l0_0))
theorem impl_ChanceBegins.mono_l : ∀ k, (∀ y0 y1 y2 y3, LeO (impl_ChanceBegins.j0 k y0 y1 y2 y3) (impl_ChanceBegins.j0 (k + 1) y0 y1 y2 y3)) ∧ (∀ y0 y1 y2 y3 y4 y5 y6, LeO (impl_ChanceBegins.l0 k y0 y1 y2 y3 y4 y5 y6) (impl_ChanceBegins.l0 (k + 1) y0 y1 y2 y3 y4 y5 y6))
 | 0 => ⟨fun _ _ _ _ r h => by simp [impl_ChanceBegins.j0] at h, fun _ _ _ _ _ _ _ r h => by simp [impl_ChanceBegins.l0] at h⟩
 | k + 1 => by
  obtain ⟨ih0, ih1⟩ := impl_ChanceBegins.mono_l k
  refine ⟨?_, ?_⟩
  ·
   intro y0 y1 y2 y3
   unfold impl_ChanceBegins.j0
   repeat' first
   | (with_reducible exact ih0 _ _ _ _)
   | (with_reducible exact ih1 _ _ _ _ _ _ _)
   | (with_reducible exact impl_Trie_begins.mono _ _ _)
   | (with_reducible exact impl_Trie_words.mono _ _)
   | (with_reducible exact impl_fraction.mono _ _ _)
   | (with_reducible exact impl_isOf.mono _ _ _)
   | (with_reducible exact impl_isTrie.mono _ _)
   | (with_reducible exact impl_power.mono _ _ _)
   | (with_reducible exact LeO.refl _)
   | (with_reducible exact LeO.none _)
   | (with_reducible refine LeO.ite ?_ ?_)
   | (with_reducible refine LeO.bind ?_ (fun _ => ?_))
   | exact ih0 _ _ _ _
   | exact ih1 _ _ _ _ _ _ _
   | exact impl_Trie_begins.mono _ _ _
   | exact impl_Trie_words.mono _ _
   | exact impl_fraction.mono _ _ _
   | exact impl_isOf.mono _ _ _
   | exact impl_isTrie.mono _ _
   | exact impl_power.mono _ _ _
   | exact LeO.none _
   | refine LeO.ite ?_ ?_
   | refine LeO.bind ?_ (fun _ => ?_)
  ·
   intro y0 y1 y2 y3 y4 y5 y6
   unfold impl_ChanceBegins.l0
   repeat' first
   | (with_reducible exact ih0 _ _ _ _)
   | (with_reducible exact ih1 _ _ _ _ _ _ _)
   | (with_reducible exact impl_Trie_begins.mono _ _ _)
   | (with_reducible exact impl_Trie_words.mono _ _)
   | (with_reducible exact impl_fraction.mono _ _ _)
   | (with_reducible exact impl_isOf.mono _ _ _)
   | (with_reducible exact impl_isTrie.mono _ _)
   | (with_reducible exact impl_power.mono _ _ _)
   | (with_reducible exact LeO.refl _)
   | (with_reducible exact LeO.none _)
   | (with_reducible refine LeO.ite ?_ ?_)
   | (with_reducible refine LeO.bind ?_ (fun _ => ?_))
   | exact ih0 _ _ _ _
   | exact ih1 _ _ _ _ _ _ _
   | exact impl_Trie_begins.mono _ _ _
   | exact impl_Trie_words.mono _ _
   | exact impl_fraction.mono _ _ _
   | exact impl_isOf.mono _ _ _
   | exact impl_isTrie.mono _ _
   | exact impl_power.mono _ _ _
   | exact LeO.none _
   | refine LeO.ite ?_ ?_
   | refine LeO.bind ?_ (fun _ => ?_)
theorem impl_ChanceBegins.mono : ∀ a0 a1 a2 k, LeO (impl_ChanceBegins.f k a0 a1 a2) (impl_ChanceBegins.f (k + 1) a0 a1 a2) := by
 intro a0 a1 a2 k
 obtain ⟨ih0, ih1⟩ := impl_ChanceBegins.mono_l k
 unfold impl_ChanceBegins.f
 repeat' first
   | (with_reducible exact ih0 _ _ _ _)
   | (with_reducible exact ih1 _ _ _ _ _ _ _)
   | (with_reducible exact impl_Trie_begins.mono _ _ _)
   | (with_reducible exact impl_Trie_words.mono _ _)
   | (with_reducible exact impl_fraction.mono _ _ _)
   | (with_reducible exact impl_isOf.mono _ _ _)
   | (with_reducible exact impl_isTrie.mono _ _)
   | (with_reducible exact impl_power.mono _ _ _)
   | (with_reducible exact LeO.refl _)
   | (with_reducible exact LeO.none _)
   | (with_reducible refine LeO.ite ?_ ?_)
   | (with_reducible refine LeO.bind ?_ (fun _ => ?_))
   | exact ih0 _ _ _ _
   | exact ih1 _ _ _ _ _ _ _
   | exact impl_Trie_begins.mono _ _ _
   | exact impl_Trie_words.mono _ _
   | exact impl_fraction.mono _ _ _
   | exact impl_isOf.mono _ _ _
   | exact impl_isTrie.mono _ _
   | exact impl_power.mono _ _ _
   | exact LeO.none _
   | refine LeO.ite ?_ ?_
   | refine LeO.bind ?_ (fun _ => ?_)
set_option maxHeartbeats 8000000 in
set_option maxRecDepth 100000 in
theorem impl_ChanceBegins.calls (k : Nat) (A0_0 : Option Addr) (c0_0 : Nat) (l0_0 : List (S80)) (a1 : Int) (a2 : Int) (r1 : Int) (r2 : Int) (r3 : Bool) (w : World) (hr0_0 : Kd.C k80 w A0_0 l0_0.length l0_0) (hc0_0 : l0_0.length ≤ c0_0) (h : impl_ChanceBegins.f k l0_0 a1 a2 = some (r1, r2, r3)) :
  Calls Try.prog 32 #[.agg #[.slice A0_0 l0_0.length c0_0], .int .i64 a1, .int .i64 a2] w fun e w' => e = .returned (.tuple #[.agg #[.int .i64 r1, .int .i64 r2], .bool r3]) ∧ Below w.heap.size w w' := by
 have hu31 := Try.underlying31
 have hu26 := Try.underlying26
 have HR0_0 := Aside0.mk hr0_0
 have HC0_0 := Aside0.mk hc0_0
 clear hr0_0 hc0_0
 have HB := Aside0.mk (Below.refl w.heap.size w)
 have H : ((impl_isTrie.f k l0_0).bind fun t767 => (if t767 = true then ((impl_isRandom.f a1 a2).bind fun t768 => (impl_ChanceBegins.j0 k a1 a2 (!t768) l0_0)) else (impl_ChanceBegins.j0 k a1 a2 true l0_0))) = some (r1, r2, r3) := h
 clear h
 have HC4 := Aside0.mk H
 clear H
 go_enter Try.func32, Try.ntmps32
 go_upto_region 1 with (first | ((with_reducible refine gate_dst (N := 3) rfl ?_); refine box_event ?hg (N := 3) ?hd (cs := #[.slice A0_0 l0_0.length c0_0]) (t := 31) ?hr ?_; (case hd => rfl); (case hg => rfl); (case hr => first | (go_simp; done) | (go_simp; rfl)); intro gb765 hg w5 hbox hb; have n0_ := Aside0.mk (below_step (by repeat (first | (with_reducible first | exact HB.out | apply below_alloc | apply pw_below_drewN | apply below_drew1) | exact HB.out)) hb); have n1_ := Aside0.mk (hbox); have n2_ := Aside0.mk ((by rw [hg]; exact (below_size (by repeat (first | (with_reducible first | exact HB.out | apply below_alloc | apply pw_below_drewN | apply below_drew1) | exact HB.out))) : w.heap.size ≤ gb765)); have n3_ := Aside0.mk ((by rw [hg]; exact (below_size (by repeat (first | (with_reducible first | exact HB.out | apply below_alloc | apply pw_below_drewN | apply below_drew1) | exact HB.out))) : w.heap.size ≤ gb765)); clear HB; have HB := n0_; have BK765 := n1_; have GW765 := n2_; have GE765 := n3_; clear n0_ n1_ n2_ n3_; clear hb hbox hg) | ((with_reducible refine gate_dst (N := 6) rfl ?_); refine box_event ?hg (N := 6) ?hd (cs := #[.int .i64 0, .int .i64 0]) (t := 26) ?hr ?_; (case hd => rfl); (case hg => rfl); (case hr => first | (go_simp; done) | (go_simp; rfl)); intro gb766 hg w6 hbox hb; have n0_ := Aside0.mk (blk_below (g := gb765) (o := .cells #[.slice A0_0 l0_0.length c0_0] 31 (0, 0)) (by (with_reducible repeat (first | refine blk_drewN ?_ _ | refine blk_drew ?_ | refine blk_alloc ?_ _)); exact BK765.out) hb); have n1_ := Aside0.mk (below_step (by repeat (first | (with_reducible first | exact HB.out | apply below_alloc | apply pw_below_drewN | apply below_drew1 | refine below_set ?_ GE765.out) | exact HB.out)) hb); have n2_ := Aside0.mk (hbox); have n3_ := Aside0.mk ((by rw [hg]; exact (below_size (by repeat (first | (with_reducible first | exact HB.out | apply below_alloc | apply pw_below_drewN | apply below_drew1 | refine below_set ?_ GE765.out) | exact HB.out))) : w.heap.size ≤ gb766)); have n4_ := Aside0.mk ((by rw [hg]; exact (below_size (by repeat (first | (with_reducible first | exact HB.out | apply below_alloc | apply pw_below_drewN | apply below_drew1 | refine below_set ?_ GE765.out) | exact HB.out))) : w.heap.size ≤ gb766)); have n5_ := Aside0.mk ((by rw [hg]; exact Nat.ne_of_lt (blk_lt (g := gb765) (o := .cells #[.slice A0_0 l0_0.length c0_0] 31 (0, 0)) (by (with_reducible repeat (first | refine blk_drewN ?_ _ | refine blk_drew ?_ | refine blk_alloc ?_ _)); exact BK765.out)) : gb765 ≠ gb766)); have n6_ := Aside0.mk ((by rw [hg]; exact Nat.ne_of_gt (blk_lt (g := gb765) (o := .cells #[.slice A0_0 l0_0.length c0_0] 31 (0, 0)) (by (with_reducible repeat (first | refine blk_drewN ?_ _ | refine blk_drew ?_ | refine blk_alloc ?_ _)); exact BK765.out)) : gb766 ≠ gb765)); clear BK765; clear HB; have BK765 := n0_; have HB := n1_; have BK766 := n2_; have GW766 := n3_; have GE766 := n4_; have NB765_766 := n5_; have NB766_765 := n6_; clear n0_ n1_ n2_ n3_ n4_ n5_ n6_; clear hb hbox hg))
 (try simp only [Act.put, List.setIfInBounds_toArray, List.set_cons_zero, List.set_cons_succ])
 go_cut [19] (fun v19 wc => ∃ (kq : Nat) (x19_3 : Bool), v19 = .bool x19_3 ∧ Aside0 (impl_ChanceBegins.j0 kq a1 a2 x19_3 l0_0 = some (r1, r2, r3)) ∧ Aside0 (kq ≤ k) ∧ Aside0 (wc.heap[gb765]? = some (.cells #[(.slice A0_0 l0_0.length c0_0)] 31 (0, 0))) ∧ Aside0 (wc.heap[gb766]? = some (.cells #[.int .i64 0, .int .i64 0] 26 (0, 0))) ∧ Aside0 (Below w.heap.size w wc))
 case first =>
  have H := HC4.out
  clear HC4
  replace H := Option.bind_eq_some_iff.mp H
  obtain ⟨t767, A70, H⟩ := H
  replace H : (if t767 = true then ((impl_isRandom.f a1 a2).bind fun t768 => (impl_ChanceBegins.j0 k a1 a2 (!t768) l0_0)) else (impl_ChanceBegins.j0 k a1 a2 true l0_0)) = some (r1, r2, r3) := H
  have A7 := Aside0.mk A70
  clear A70
  by_cases c8 : t767 = true
  ·
   subst c8
   have H1 : ((impl_isRandom.f a1 a2).bind fun t768 => (impl_ChanceBegins.j0 k a1 a2 (!t768) l0_0)) = some (r1, r2, r3) := by rw [if_pos rfl] at H; exact H
   clear H
   have H := H1
   clear H1
   replace H := Option.bind_eq_some_iff.mp H
   obtain ⟨t768, A90, H⟩ := H
   replace H : (impl_ChanceBegins.j0 k a1 a2 (!t768) l0_0) = some (r1, r2, r3) := H
   have A9 := Aside0.mk A90
   clear A90
   have H' := Aside0.mk H
   clear H
   have hnb10 := NB765_766.out
   have hnc10 := NB766_765.out
   have hcz11_0 : w6.cell? ⟨gb765, 0, none⟩ = some (.slice A0_0 l0_0.length c0_0) := (blk_cell BK765.out 0).trans rfl
   have hfz11_0 := blk_frozen BK765.out 0
   go_wp2_with (first | ((with_reducible refine gate_callee (f := 48) rfl ?_); refine goesL_ (some 12) rfl rfl Try.func48 (by kernel_rfl) rfl #[.agg #[.slice A0_0 l0_0.length c0_0]] rfl (by (try simp only [List.map_toArray, List.map_cons, List.map_nil]); first | done | rfl | (simp only [List.length_drop, List.length_take]; rfl)) ?_; (with_reducible refine (impl_isTrie.calls k _ _ l0_0 true _ ?side1 ?side2 A7.out).mono ?_); (case side1 => repeat (first | exact (Kd.C_below HR0_0.out HB.out) | (with_reducible refine Kd.C_alloc ?_ _) | (with_reducible refine Kd.C_drewN ?_ _) | (with_reducible refine Kd.C_drew ?_))); (case side2 => exact HC0_0.out); rintro e w12 ⟨rfl, hb⟩; refine ⟨_, rfl, ?_⟩; have n0_ := Aside0.mk (blk_below (g := gb765) (o := .cells #[.slice A0_0 l0_0.length c0_0] 31 (0, 0)) (by (with_reducible repeat (first | refine blk_drewN ?_ _ | refine blk_drew ?_ | refine blk_alloc ?_ _)); exact BK765.out) hb); have n1_ := Aside0.mk (blk_below (g := gb766) (o := .cells #[.int .i64 0, .int .i64 0] 26 (0, 0)) (by (with_reducible repeat (first | refine blk_drewN ?_ _ | refine blk_drew ?_ | refine blk_alloc ?_ _)); exact BK766.out) hb); have n2_ := Aside0.mk (below_step (by repeat (first | (with_reducible first | exact HB.out | apply below_alloc | apply pw_below_drewN | apply below_drew1 | refine below_set ?_ GE765.out | refine below_set ?_ GE766.out) | exact HB.out)) hb); clear BK765; clear BK766; clear HB; have BK765 := n0_; have BK766 := n1_; have HB := n2_; clear n0_ n1_ n2_; (try clear hb); (try clear hb2); (try clear hk); (try clear hi)) | (go_at_call 62; (with_reducible refine (impl_isRandom.calls a1 a2 t768 _ A9.out).mono ?_); rintro e w' ⟨rfl, ⟨nd, rfl⟩⟩))
   go_meet
   case rel => exact ⟨_, (!t768), (by first | rfl | (simp; done) | (simp [*]; done)), H', ⟨by first | omega | exact Nat.le_refl _⟩, ⟨by (with_reducible repeat (first | refine blk_drewN ?_ _ | refine blk_drew ?_ | refine blk_alloc ?_ _)); exact BK765.out⟩, ⟨by (with_reducible repeat (first | refine blk_drewN ?_ _ | refine blk_drew ?_ | refine blk_alloc ?_ _)); exact BK766.out⟩, ⟨by repeat (first | (with_reducible first | exact HB.out | apply below_alloc | apply pw_below_drewN | apply below_drew1 | refine below_set ?_ GE765.out | refine below_set ?_ GE766.out) | exact HB.out)⟩⟩
  ·
   replace c8 := Bool.eq_false_iff.mpr c8
   subst c8
   have H1 : (impl_ChanceBegins.j0 k a1 a2 true l0_0) = some (r1, r2, r3) := by rw [if_neg (show ¬ (false = true) by decide)] at H; exact H
   clear H
   have H := H1
   clear H1
   have H' := Aside0.mk H
   clear H
   have hnb13 := NB765_766.out
   have hnc13 := NB766_765.out
   have hcz14_0 : w6.cell? ⟨gb765, 0, none⟩ = some (.slice A0_0 l0_0.length c0_0) := (blk_cell BK765.out 0).trans rfl
   have hfz14_0 := blk_frozen BK765.out 0
   go_wp2_with (first | ((with_reducible refine gate_callee (f := 48) rfl ?_); refine goesL_ (some 12) rfl rfl Try.func48 (by kernel_rfl) rfl #[.agg #[.slice A0_0 l0_0.length c0_0]] rfl (by (try simp only [List.map_toArray, List.map_cons, List.map_nil]); first | done | rfl | (simp only [List.length_drop, List.length_take]; rfl)) ?_; (with_reducible refine (impl_isTrie.calls k _ _ l0_0 false _ ?side1 ?side2 A7.out).mono ?_); (case side1 => repeat (first | exact (Kd.C_below HR0_0.out HB.out) | (with_reducible refine Kd.C_alloc ?_ _) | (with_reducible refine Kd.C_drewN ?_ _) | (with_reducible refine Kd.C_drew ?_))); (case side2 => exact HC0_0.out); rintro e w15 ⟨rfl, hb⟩; refine ⟨_, rfl, ?_⟩; have n0_ := Aside0.mk (blk_below (g := gb765) (o := .cells #[.slice A0_0 l0_0.length c0_0] 31 (0, 0)) (by (with_reducible repeat (first | refine blk_drewN ?_ _ | refine blk_drew ?_ | refine blk_alloc ?_ _)); exact BK765.out) hb); have n1_ := Aside0.mk (blk_below (g := gb766) (o := .cells #[.int .i64 0, .int .i64 0] 26 (0, 0)) (by (with_reducible repeat (first | refine blk_drewN ?_ _ | refine blk_drew ?_ | refine blk_alloc ?_ _)); exact BK766.out) hb); have n2_ := Aside0.mk (below_step (by repeat (first | (with_reducible first | exact HB.out | apply below_alloc | apply pw_below_drewN | apply below_drew1 | refine below_set ?_ GE765.out | refine below_set ?_ GE766.out) | exact HB.out)) hb); clear BK765; clear BK766; clear HB; have BK765 := n0_; have BK766 := n1_; have HB := n2_; clear n0_ n1_ n2_; (try clear hb); (try clear hb2); (try clear hk); (try clear hi)))
   go_meet
   case rel => exact ⟨_, (true), (by first | rfl | (simp; done) | (simp [*]; done)), H', ⟨by first | omega | exact Nat.le_refl _⟩, ⟨by (with_reducible repeat (first | refine blk_drewN ?_ _ | refine blk_drew ?_ | refine blk_alloc ?_ _)); exact BK765.out⟩, ⟨by (with_reducible repeat (first | refine blk_drewN ?_ _ | refine blk_drew ?_ | refine blk_alloc ?_ _)); exact BK766.out⟩, ⟨by repeat (first | (with_reducible first | exact HB.out | apply below_alloc | apply pw_below_drewN | apply below_drew1 | refine below_set ?_ GE765.out | refine below_set ?_ GE766.out) | exact HB.out)⟩⟩
 case rest =>
  clear HC4
  try clear c1
  try clear p2
  try clear c3
  try clear c4
  try clear c8
  try clear c10
  try clear c13
  try clear hcz11_0
  try clear hcz14_0
  try clear hfz11_0
  try clear hfz14_0
  obtain ⟨kq, x19_3, rfl, HA, HJ3, BK765, BK766, HB⟩ := hcut
  cases kq with
  | zero => exact absurd HA.out (by simp [impl_ChanceBegins.j0])
  | succ kj3 =>
   have H := HA.out
   clear HA
   simp only [impl_ChanceBegins.j0] at H
   by_cases c16 : x19_3 = true
   ·
    subst c16
    have H1 : (some (0, 0, false)) = some (r1, r2, r3) := by rw [if_pos rfl] at H; exact H
    clear H
    have H := H1
    clear H1
    simp only [Option.some.injEq, Prod.mk.injEq] at H
    obtain ⟨rfl, rfl, rfl⟩ := H
    have hnb17 := NB766_765.out
    have hnc17 := NB765_766.out
    have hcz18_0 : wc.cell? ⟨gb766, 0, none⟩ = some (.int .i64 0) := (blk_cell BK766.out 0).trans rfl
    have hcz18_1 : wc.cell? ⟨gb766, 1, none⟩ = some (.int .i64 0) := (blk_cell BK766.out 1).trans rfl
    have hfz18_0 := blk_frozen BK766.out 0
    have hfz18_1 := blk_frozen BK766.out 1
    go_wp2
    refine bodyPost_ret (results_ct rfl _ _ gb766 26 #[.int .i64 0, .int .i64 0] (0, 0) _ rfl (by (with_reducible repeat (first | refine blk_drewN ?_ _ | refine blk_drew ?_ | refine blk_alloc ?_ _)); refine blk_put (cs := #[.int .i64 0, .int .i64 0]) ?_ 1 _ rfl; (with_reducible repeat (first | refine blk_drewN ?_ _ | refine blk_drew ?_ | refine blk_alloc ?_ _)); refine blk_put (cs := #[.int .i64 0, .int .i64 0]) ?_ 0 _ rfl; (with_reducible repeat (first | refine blk_drewN ?_ _ | refine blk_drew ?_ | refine blk_alloc ?_ _)); exact BK766.out) Try.underlying26 rfl (by kernel_rfl)) rfl ?_
    exact ⟨by first | rfl | (simp [errW_none, errW_some] <;> rfl) | (simp [*, errW_none, errW_some] <;> rfl), by repeat (first | (with_reducible first | exact HB.out | apply below_alloc | apply pw_below_drewN | apply below_drew1 | refine below_set ?_ GE765.out | refine below_set ?_ GE766.out) | exact HB.out)⟩
   ·
    replace c16 := Bool.eq_false_iff.mpr c16
    subst c16
    have H1 : ((impl_Trie_words.f kj3 l0_0).bind fun t769 => (impl_ChanceBegins.l0 kj3 a1 a2 0 t769 (t769.length : Int) 0 l0_0)) = some (r1, r2, r3) := by rw [if_neg (show ¬ (false = true) by decide)] at H; exact H
    clear H
    have H := H1
    clear H1
    replace H := Option.bind_eq_some_iff.mp H
    obtain ⟨t769, A190, H⟩ := H
    replace H : (impl_ChanceBegins.l0 kj3 a1 a2 0 t769 (t769.length : Int) 0 l0_0) = some (r1, r2, r3) := H
    have A19 := Aside0.mk A190
    clear A190
    have H' := Aside0.mk H
    clear H
    have hnb20 := NB765_766.out
    have hnc20 := NB766_765.out
    have hcz21_0 : wc.cell? ⟨gb765, 0, none⟩ = some (.slice A0_0 l0_0.length c0_0) := (blk_cell BK765.out 0).trans rfl
    have hfz21_0 := blk_frozen BK765.out 0
    go_wp2_with (first | ((with_reducible refine gate_callee (f := 49) rfl ?_); refine goesL_ (some 22) rfl rfl Try.func49 (by kernel_rfl) rfl #[.agg #[.slice A0_0 l0_0.length c0_0]] rfl (by (try simp only [List.map_toArray, List.map_cons, List.map_nil]); first | done | rfl | (simp only [List.length_drop, List.length_take]; rfl)) ?_; (with_reducible refine (impl_Trie_words.calls kj3 _ _ l0_0 t769 _ ?side1 ?side2 A19.out).mono ?_); (case side1 => repeat (first | exact (Kd.C_below HR0_0.out HB.out) | (with_reducible refine Kd.C_alloc ?_ _) | (with_reducible refine Kd.C_drewN ?_ _) | (with_reducible refine Kd.C_drew ?_))); (case side2 => exact HC0_0.out); rintro e w22 ⟨v770, rfl, ho0, hb⟩; refine ⟨_, rfl, ?_⟩; have n0_ := Aside0.mk (Kd.R_lower ho0 (below_size (by repeat (first | (with_reducible first | exact HB.out | apply below_alloc | apply pw_below_drewN | apply below_drew1 | refine below_set ?_ GE765.out | refine below_set ?_ GE766.out) | exact HB.out)))); have n1_ := Aside0.mk (blk_below (g := gb765) (o := .cells #[.slice A0_0 l0_0.length c0_0] 31 (0, 0)) (by (with_reducible repeat (first | refine blk_drewN ?_ _ | refine blk_drew ?_ | refine blk_alloc ?_ _)); exact BK765.out) hb); have n2_ := Aside0.mk (blk_below (g := gb766) (o := .cells #[.int .i64 0, .int .i64 0] 26 (0, 0)) (by (with_reducible repeat (first | refine blk_drewN ?_ _ | refine blk_drew ?_ | refine blk_alloc ?_ _)); exact BK766.out) hb); have n3_ := Aside0.mk (below_step (by repeat (first | (with_reducible first | exact HB.out | apply below_alloc | apply pw_below_drewN | apply below_drew1 | refine below_set ?_ GE765.out | refine below_set ?_ GE766.out) | exact HB.out)) hb); clear BK765; clear BK766; clear HB; have HO771 := n0_; have BK765 := n1_; have BK766 := n2_; have HB := n3_; clear n0_ n1_ n2_ n3_; (try clear hb); (try clear hb2); (try clear hk); (try clear hi); (try clear ho0); obtain ⟨Ao23, co23, eo23⟩ := Kd.R_slice HO771.out; subst eo23))
    go_loopg [8, 24] kj3 (fun kq v8 v24 w' => ∃ (x8_2 : Int) (x24_2 : Int), v8 = .int .i64 x8_2 ∧ v24 = .int .i64 x24_2 ∧ Aside0 (impl_ChanceBegins.l0 kq a1 a2 x8_2 t769 (t769.length : Int) x24_2 l0_0 = some (r1, r2, r3)) ∧ Aside0 (kq ≤ kj3) ∧ Aside0 (Kd.R Kd.string 9 w' w.heap.size (fun _ => True) (.slice Ao23 t769.length co23) t769) ∧ Aside0 (w'.heap[gb765]? = some (.cells #[(.slice A0_0 l0_0.length c0_0)] 31 (0, 0))) ∧ Aside0 (w'.heap[gb766]? = some (.cells #[.int .i64 0, .int .i64 0] 26 (0, 0))) ∧ Aside0 (Below w.heap.size w w'))
    case atStart => exact ⟨(0), (0), (by first | rfl | (simp; done) | (simp [*]; done)), (by first | rfl | (simp; done) | (simp [*]; done)), H', ⟨Nat.le_refl _⟩, ⟨by (with_reducible repeat (first | apply Kd.R_alloc | apply Kd.R_drewN | apply Kd.R_drew)); exact HO771.out⟩, ⟨by (with_reducible repeat (first | refine blk_drewN ?_ _ | refine blk_drew ?_ | refine blk_alloc ?_ _)); exact BK765.out⟩, ⟨by (with_reducible repeat (first | refine blk_drewN ?_ _ | refine blk_drew ?_ | refine blk_alloc ?_ _)); exact BK766.out⟩, ⟨by repeat (first | (with_reducible first | exact HB.out | apply below_alloc | apply pw_below_drewN | apply below_drew1 | refine below_set ?_ GE765.out | refine below_set ?_ GE766.out) | exact HB.out)⟩⟩
    case round =>
     clear H'
     try clear c1
     try clear c2
     try clear p2
     try clear c3
     try clear c4
     try clear c8
     try clear c10
     try clear c13
     try clear c16
     try clear c17
     try clear c20
     try clear hcz11_0
     try clear hcz14_0
     try clear hcz18_0
     try clear hcz18_1
     try clear hcz21_0
     try clear hfz11_0
     try clear hfz14_0
     try clear hfz18_0
     try clear hfz18_1
     try clear hfz21_0
     try clear p2
     obtain ⟨x8_2, x24_2, rfl, rfl, HA, HK2, HO_22, BK765, BK766, HB⟩ := hrel
     cases gk with
     | zero => exact absurd HA.out (by simp [impl_ChanceBegins.l0])
     | succ k2 =>
      have H := HA.out
      clear HA
      simp only [impl_ChanceBegins.l0] at H
      by_cases c24 : x24_2 < (t769.length : Int)
      ·
       rw [if_pos c24] at H
       have c24b0 : decide (x24_2 < (t769.length : Int)) = true := decide_eq_true c24
       clear c24
       by_cases c25 : 0 ≤ x24_2
       ·
        rw [if_pos c25] at H
        have c25b0 : decide (0 ≤ x24_2) = true := decide_eq_true c25
        clear c25
        by_cases c26 : x24_2 < (t769.length : Int)
        ·
         rw [if_pos c26] at H
         have c26b0 : decide (x24_2 < (t769.length : Int)) = true := decide_eq_true c26
         clear c26
         by_cases c27 : ((rdOf ByteArray.empty t769 x24_2).size : Int) ≤ a2
         ·
          rw [if_pos c27] at H
          have c27b0 : decide (((rdOf ByteArray.empty t769 x24_2).size : Int) ≤ a2) = true := decide_eq_true c27
          clear c27
          replace H := Option.bind_eq_some_iff.mp H
          obtain ⟨t776, A280, H⟩ := H
          replace H : (if t776 = true then ((impl_Trie_begins.f k2 l0_0 (rdOf ByteArray.empty t769 x24_2)).bind fun t777 => (if t777 = true then (impl_ChanceBegins.l0 k2 a1 a2 x8_2 t769 (t769.length : Int) (wrap64 (x24_2 + 1)) l0_0) else ((impl_power.f k2 a1 (wrap64 (a2 - ((rdOf ByteArray.empty t769 x24_2).size : Int)))).bind fun t778 => (impl_ChanceBegins.l0 k2 a1 a2 (wrap64 (x8_2 + t778)) t769 (t769.length : Int) (wrap64 (x24_2 + 1)) l0_0)))) else (impl_ChanceBegins.l0 k2 a1 a2 x8_2 t769 (t769.length : Int) (wrap64 (x24_2 + 1)) l0_0)) = some (r1, r2, r3) := H
          have A28 := Aside0.mk A280
          clear A280
          by_cases c29 : t776 = true
          ·
           subst c29
           have H1 : ((impl_Trie_begins.f k2 l0_0 (rdOf ByteArray.empty t769 x24_2)).bind fun t777 => (if t777 = true then (impl_ChanceBegins.l0 k2 a1 a2 x8_2 t769 (t769.length : Int) (wrap64 (x24_2 + 1)) l0_0) else ((impl_power.f k2 a1 (wrap64 (a2 - ((rdOf ByteArray.empty t769 x24_2).size : Int)))).bind fun t778 => (impl_ChanceBegins.l0 k2 a1 a2 (wrap64 (x8_2 + t778)) t769 (t769.length : Int) (wrap64 (x24_2 + 1)) l0_0)))) = some (r1, r2, r3) := by rw [if_pos rfl] at H; exact H
           clear H
           have H := H1
           clear H1
           replace H := Option.bind_eq_some_iff.mp H
           obtain ⟨t777, A300, H⟩ := H
           replace H : (if t777 = true then (impl_ChanceBegins.l0 k2 a1 a2 x8_2 t769 (t769.length : Int) (wrap64 (x24_2 + 1)) l0_0) else ((impl_power.f k2 a1 (wrap64 (a2 - ((rdOf ByteArray.empty t769 x24_2).size : Int)))).bind fun t778 => (impl_ChanceBegins.l0 k2 a1 a2 (wrap64 (x8_2 + t778)) t769 (t769.length : Int) (wrap64 (x24_2 + 1)) l0_0))) = some (r1, r2, r3) := H
           have A30 := Aside0.mk A300
           clear A300
           by_cases c31 : t777 = true
           ·
            subst c31
            have H1 : (impl_ChanceBegins.l0 k2 a1 a2 x8_2 t769 (t769.length : Int) (wrap64 (x24_2 + 1)) l0_0) = some (r1, r2, r3) := by rw [if_pos rfl] at H; exact H
            clear H
            have H := H1
            clear H1
            have H' := Aside0.mk H
            clear H
            have p775 : 0 ≤ (x24_2 : Int) := of_decide_eq_true (by first | (with_reducible assumption) | assumption)
            have q775 : x24_2 < (t769.length : Int) := of_decide_eq_true (by first | (with_reducible assumption) | assumption)
            obtain ⟨ad775, e775, hx775_0⟩ := Kd.at_string (Kd.R_reads' HO_22.out).2.2 x24_2 p775 q775
            cases e775
            replace p775 := eq_true p775
            replace q775 := eq_true q775
            go_wp2_with (first | (go_at_call 65; (with_reducible refine (impl_isOf.calls k2 (rdOf ByteArray.empty t769 x24_2) a1 true _ A28.out).mono ?_); rintro e w' ⟨rfl, ⟨nd, rfl⟩⟩; have hnb32 := NB765_766.out; have hnc32 := NB766_765.out; have hcz33_0 : wr.cell? ⟨gb765, 0, none⟩ = some (.slice A0_0 l0_0.length c0_0) := (blk_cell BK765.out 0).trans rfl; have hfz33_0 := blk_frozen BK765.out 0) | (go_at_call 73; (with_reducible refine (impl_Trie_begins.calls k2 _ _ l0_0 (rdOf ByteArray.empty t769 x24_2) true _ ?side1 ?side2 A30.out).mono ?_); (case side1 => repeat (first | exact (Kd.C_below HR0_0.out (by repeat (first | (with_reducible first | exact HB.out | apply below_alloc | apply pw_below_drewN | apply below_drew1 | refine below_set ?_ GE765.out | refine below_set ?_ GE766.out) | exact HB.out))) | (with_reducible refine Kd.C_alloc ?_ _) | (with_reducible refine Kd.C_drewN ?_ _) | (with_reducible refine Kd.C_drew ?_))); (case side2 => exact HC0_0.out); rintro e w34 ⟨rfl, hb⟩; have n0_ := Aside0.mk (Kd.R_below (by (with_reducible repeat (first | apply Kd.R_alloc | apply Kd.R_drewN | apply Kd.R_drew)); exact HO_22.out) hb); have n1_ := Aside0.mk (blk_below (g := gb765) (o := .cells #[.slice A0_0 l0_0.length c0_0] 31 (0, 0)) (by (with_reducible repeat (first | refine blk_drewN ?_ _ | refine blk_drew ?_ | refine blk_alloc ?_ _)); exact BK765.out) hb); have n2_ := Aside0.mk (blk_below (g := gb766) (o := .cells #[.int .i64 0, .int .i64 0] 26 (0, 0)) (by (with_reducible repeat (first | refine blk_drewN ?_ _ | refine blk_drew ?_ | refine blk_alloc ?_ _)); exact BK766.out) hb); have n3_ := Aside0.mk (below_step (by repeat (first | (with_reducible first | exact HB.out | apply below_alloc | apply pw_below_drewN | apply below_drew1 | refine below_set ?_ GE765.out | refine below_set ?_ GE766.out) | exact HB.out)) hb); clear HO_22; clear BK765; clear BK766; clear HB; have HO_22 := n0_; have BK765 := n1_; have BK766 := n2_; have HB := n3_; clear n0_ n1_ n2_ n3_; (try clear hb); (try clear hb2); (try clear hk); (try clear hi)))
            go_roundg k2
            case measure => have := HJ3.out; have := HK2.out; omega
            case rel => exact ⟨(x8_2), (wrap64 (x24_2 + 1)), (by first | rfl | (simp; done) | (simp [*]; done)), (by first | rfl | (simp; done) | (simp [*]; done)), H', ⟨by have := HJ3.out; have := HK2.out; omega⟩, ⟨by (with_reducible repeat (first | apply Kd.R_alloc | apply Kd.R_drewN | apply Kd.R_drew)); exact HO_22.out⟩, ⟨by (with_reducible repeat (first | refine blk_drewN ?_ _ | refine blk_drew ?_ | refine blk_alloc ?_ _)); exact BK765.out⟩, ⟨by (with_reducible repeat (first | refine blk_drewN ?_ _ | refine blk_drew ?_ | refine blk_alloc ?_ _)); exact BK766.out⟩, ⟨by repeat (first | (with_reducible first | exact HB.out | apply below_alloc | apply pw_below_drewN | apply below_drew1 | refine below_set ?_ GE765.out | refine below_set ?_ GE766.out) | exact HB.out)⟩⟩
           ·
            replace c31 := Bool.eq_false_iff.mpr c31
            subst c31
            have H1 : ((impl_power.f k2 a1 (wrap64 (a2 - ((rdOf ByteArray.empty t769 x24_2).size : Int)))).bind fun t778 => (impl_ChanceBegins.l0 k2 a1 a2 (wrap64 (x8_2 + t778)) t769 (t769.length : Int) (wrap64 (x24_2 + 1)) l0_0)) = some (r1, r2, r3) := by rw [if_neg (show ¬ (false = true) by decide)] at H; exact H
            clear H
            have H := H1
            clear H1
            replace H := Option.bind_eq_some_iff.mp H
            obtain ⟨t778, A350, H⟩ := H
            replace H : (impl_ChanceBegins.l0 k2 a1 a2 (wrap64 (x8_2 + t778)) t769 (t769.length : Int) (wrap64 (x24_2 + 1)) l0_0) = some (r1, r2, r3) := H
            have A35 := Aside0.mk A350
            clear A350
            have H' := Aside0.mk H
            clear H
            have p775 : 0 ≤ (x24_2 : Int) := of_decide_eq_true (by first | (with_reducible assumption) | assumption)
            have q775 : x24_2 < (t769.length : Int) := of_decide_eq_true (by first | (with_reducible assumption) | assumption)
            obtain ⟨ad775, e775, hx775_0⟩ := Kd.at_string (Kd.R_reads' HO_22.out).2.2 x24_2 p775 q775
            cases e775
            replace p775 := eq_true p775
            replace q775 := eq_true q775
            go_wp2_with (first | (go_at_call 65; (with_reducible refine (impl_isOf.calls k2 (rdOf ByteArray.empty t769 x24_2) a1 true _ A28.out).mono ?_); rintro e w' ⟨rfl, ⟨nd, rfl⟩⟩; have hnb36 := NB765_766.out; have hnc36 := NB766_765.out; have hcz37_0 : wr.cell? ⟨gb765, 0, none⟩ = some (.slice A0_0 l0_0.length c0_0) := (blk_cell BK765.out 0).trans rfl; have hfz37_0 := blk_frozen BK765.out 0) | (go_at_call 73; (with_reducible refine (impl_Trie_begins.calls k2 _ _ l0_0 (rdOf ByteArray.empty t769 x24_2) false _ ?side1 ?side2 A30.out).mono ?_); (case side1 => repeat (first | exact (Kd.C_below HR0_0.out (by repeat (first | (with_reducible first | exact HB.out | apply below_alloc | apply pw_below_drewN | apply below_drew1 | refine below_set ?_ GE765.out | refine below_set ?_ GE766.out) | exact HB.out))) | (with_reducible refine Kd.C_alloc ?_ _) | (with_reducible refine Kd.C_drewN ?_ _) | (with_reducible refine Kd.C_drew ?_))); (case side2 => exact HC0_0.out); rintro e w38 ⟨rfl, hb⟩; have n0_ := Aside0.mk (Kd.R_below (by (with_reducible repeat (first | apply Kd.R_alloc | apply Kd.R_drewN | apply Kd.R_drew)); exact HO_22.out) hb); have n1_ := Aside0.mk (blk_below (g := gb765) (o := .cells #[.slice A0_0 l0_0.length c0_0] 31 (0, 0)) (by (with_reducible repeat (first | refine blk_drewN ?_ _ | refine blk_drew ?_ | refine blk_alloc ?_ _)); exact BK765.out) hb); have n2_ := Aside0.mk (blk_below (g := gb766) (o := .cells #[.int .i64 0, .int .i64 0] 26 (0, 0)) (by (with_reducible repeat (first | refine blk_drewN ?_ _ | refine blk_drew ?_ | refine blk_alloc ?_ _)); exact BK766.out) hb); have n3_ := Aside0.mk (below_step (by repeat (first | (with_reducible first | exact HB.out | apply below_alloc | apply pw_below_drewN | apply below_drew1 | refine below_set ?_ GE765.out | refine below_set ?_ GE766.out) | exact HB.out)) hb); clear HO_22; clear BK765; clear BK766; clear HB; have HO_22 := n0_; have BK765 := n1_; have BK766 := n2_; have HB := n3_; clear n0_ n1_ n2_ n3_; (try clear hb); (try clear hb2); (try clear hk); (try clear hi)) | ((with_reducible refine gate_callee (f := 66) rfl ?_); refine goesL_ (some 49) rfl rfl Try.func66 (by kernel_rfl) rfl #[.int .i64 a1, .int .i64 (wrap64 (a2 - ((rdOf ByteArray.empty t769 x24_2).size : Int)))] rfl (by (try simp only [List.map_toArray, List.map_cons, List.map_nil]); first | done | rfl | (simp only [List.length_drop, List.length_take]; rfl)) ?_; (with_reducible refine (impl_power.calls k2 a1 (wrap64 (a2 - ((rdOf ByteArray.empty t769 x24_2).size : Int))) t778 _ A35.out).mono ?_); rintro e w' ⟨rfl, ⟨nd, rfl⟩⟩; refine ⟨_, rfl, ?_⟩))
            go_roundg k2
            case measure => have := HJ3.out; have := HK2.out; omega
            case rel => exact ⟨(wrap64 (x8_2 + t778)), (wrap64 (x24_2 + 1)), (by first | rfl | (simp; done) | (simp [*]; done)), (by first | rfl | (simp; done) | (simp [*]; done)), H', ⟨by have := HJ3.out; have := HK2.out; omega⟩, ⟨by (with_reducible repeat (first | apply Kd.R_alloc | apply Kd.R_drewN | apply Kd.R_drew)); exact HO_22.out⟩, ⟨by (with_reducible repeat (first | refine blk_drewN ?_ _ | refine blk_drew ?_ | refine blk_alloc ?_ _)); exact BK765.out⟩, ⟨by (with_reducible repeat (first | refine blk_drewN ?_ _ | refine blk_drew ?_ | refine blk_alloc ?_ _)); exact BK766.out⟩, ⟨by repeat (first | (with_reducible first | exact HB.out | apply below_alloc | apply pw_below_drewN | apply below_drew1 | refine below_set ?_ GE765.out | refine below_set ?_ GE766.out) | exact HB.out)⟩⟩
          ·
           replace c29 := Bool.eq_false_iff.mpr c29
           subst c29
           have H1 : (impl_ChanceBegins.l0 k2 a1 a2 x8_2 t769 (t769.length : Int) (wrap64 (x24_2 + 1)) l0_0) = some (r1, r2, r3) := by rw [if_neg (show ¬ (false = true) by decide)] at H; exact H
           clear H
           have H := H1
           clear H1
           have H' := Aside0.mk H
           clear H
           have p775 : 0 ≤ (x24_2 : Int) := of_decide_eq_true (by first | (with_reducible assumption) | assumption)
           have q775 : x24_2 < (t769.length : Int) := of_decide_eq_true (by first | (with_reducible assumption) | assumption)
           obtain ⟨ad775, e775, hx775_0⟩ := Kd.at_string (Kd.R_reads' HO_22.out).2.2 x24_2 p775 q775
           cases e775
           replace p775 := eq_true p775
           replace q775 := eq_true q775
           go_wp2_with (first | (go_at_call 65; (with_reducible refine (impl_isOf.calls k2 (rdOf ByteArray.empty t769 x24_2) a1 false _ A28.out).mono ?_); rintro e w' ⟨rfl, ⟨nd, rfl⟩⟩))
           go_roundg k2
           case measure => have := HJ3.out; have := HK2.out; omega
           case rel => exact ⟨(x8_2), (wrap64 (x24_2 + 1)), (by first | rfl | (simp; done) | (simp [*]; done)), (by first | rfl | (simp; done) | (simp [*]; done)), H', ⟨by have := HJ3.out; have := HK2.out; omega⟩, ⟨by (with_reducible repeat (first | apply Kd.R_alloc | apply Kd.R_drewN | apply Kd.R_drew)); exact HO_22.out⟩, ⟨by (with_reducible repeat (first | refine blk_drewN ?_ _ | refine blk_drew ?_ | refine blk_alloc ?_ _)); exact BK765.out⟩, ⟨by (with_reducible repeat (first | refine blk_drewN ?_ _ | refine blk_drew ?_ | refine blk_alloc ?_ _)); exact BK766.out⟩, ⟨by repeat (first | (with_reducible first | exact HB.out | apply below_alloc | apply pw_below_drewN | apply below_drew1 | refine below_set ?_ GE765.out | refine below_set ?_ GE766.out) | exact HB.out)⟩⟩
         ·
          rw [if_neg c27] at H
          have c27b0 : decide (((rdOf ByteArray.empty t769 x24_2).size : Int) ≤ a2) = false := decide_eq_false c27
          clear c27
          have H' := Aside0.mk H
          clear H
          have p775 : 0 ≤ (x24_2 : Int) := of_decide_eq_true (by first | (with_reducible assumption) | assumption)
          have q775 : x24_2 < (t769.length : Int) := of_decide_eq_true (by first | (with_reducible assumption) | assumption)
          obtain ⟨ad775, e775, hx775_0⟩ := Kd.at_string (Kd.R_reads' HO_22.out).2.2 x24_2 p775 q775
          cases e775
          replace p775 := eq_true p775
          replace q775 := eq_true q775
          go_wp2
          go_roundg k2
          case measure => have := HJ3.out; have := HK2.out; omega
          case rel => exact ⟨(x8_2), (wrap64 (x24_2 + 1)), (by first | rfl | (simp; done) | (simp [*]; done)), (by first | rfl | (simp; done) | (simp [*]; done)), H', ⟨by have := HJ3.out; have := HK2.out; omega⟩, ⟨by (with_reducible repeat (first | apply Kd.R_alloc | apply Kd.R_drewN | apply Kd.R_drew)); exact HO_22.out⟩, ⟨by (with_reducible repeat (first | refine blk_drewN ?_ _ | refine blk_drew ?_ | refine blk_alloc ?_ _)); exact BK765.out⟩, ⟨by (with_reducible repeat (first | refine blk_drewN ?_ _ | refine blk_drew ?_ | refine blk_alloc ?_ _)); exact BK766.out⟩, ⟨by repeat (first | (with_reducible first | exact HB.out | apply below_alloc | apply pw_below_drewN | apply below_drew1 | refine below_set ?_ GE765.out | refine below_set ?_ GE766.out) | exact HB.out)⟩⟩
        ·
         rw [if_neg c26] at H
         exact absurd H (by simp)
       ·
        rw [if_neg c25] at H
        exact absurd H (by simp)
      ·
       rw [if_neg c24] at H
       have c24b0 : decide (x24_2 < (t769.length : Int)) = false := decide_eq_false c24
       clear c24
       replace H := Option.bind_eq_some_iff.mp H
       obtain ⟨t772, A390, H⟩ := H
       replace H : ((impl_fraction.f k2 x8_2 t772).bind fun bt773 => (some (bt773.1, bt773.2, true))) = some (r1, r2, r3) := H
       have A39 := Aside0.mk A390
       clear A390
       replace H := Option.bind_eq_some_iff.mp H
       obtain ⟨⟨t773, t774⟩, A400, H⟩ := H
       replace H : (some (t773, t774, true)) = some (r1, r2, r3) := H
       have A40 := Aside0.mk A400
       clear A400
       simp only [Option.some.injEq, Prod.mk.injEq] at H
       obtain ⟨rfl, rfl, rfl⟩ := H
       go_wp2_with (first | ((with_reducible refine gate_callee (f := 66) rfl ?_); refine goesL_ (some 55) rfl rfl Try.func66 (by kernel_rfl) rfl #[.int .i64 a1, .int .i64 a2] rfl (by (try simp only [List.map_toArray, List.map_cons, List.map_nil]); first | done | rfl | (simp only [List.length_drop, List.length_take]; rfl)) ?_; (with_reducible refine (impl_power.calls k2 a1 a2 t772 _ A39.out).mono ?_); rintro e w' ⟨rfl, ⟨nd, rfl⟩⟩; refine ⟨_, rfl, ?_⟩; (try (rw [drewN_self wr]; generalize hq_ : World.drewN wr _ = wr; have n0_ : Aside0 (Kd.R Kd.string 9 wr w.heap.size (fun _ => True) (.slice Ao23 t769.length co23) t769) := ⟨by rw [← hq_]; exact (by (with_reducible repeat (first | apply Kd.R_alloc | apply Kd.R_drewN | apply Kd.R_drew)); exact HO_22.out)⟩; have n1_ : Aside0 (wr.heap[gb765]? = some (.cells #[.slice A0_0 l0_0.length c0_0] 31 (0, 0))) := ⟨by rw [← hq_]; exact (by (with_reducible repeat (first | refine blk_drewN ?_ _ | refine blk_drew ?_ | refine blk_alloc ?_ _)); exact BK765.out)⟩; have n2_ : Aside0 (wr.heap[gb766]? = some (.cells #[.int .i64 0, .int .i64 0] 26 (0, 0))) := ⟨by rw [← hq_]; exact (by (with_reducible repeat (first | refine blk_drewN ?_ _ | refine blk_drew ?_ | refine blk_alloc ?_ _)); exact BK766.out)⟩; have n3_ : Aside0 (Below w.heap.size w wr) := ⟨by rw [← hq_]; exact (by repeat (first | (with_reducible first | exact HB.out | apply below_alloc | apply pw_below_drewN | apply below_drew1 | refine below_set ?_ GE765.out | refine below_set ?_ GE766.out) | exact HB.out))⟩; clear HO_22 BK765 BK766 HB hq_; have HO_22 := n0_; have BK765 := n1_; have BK766 := n2_; have HB := n3_; clear n0_ n1_ n2_ n3_))) | ((with_reducible refine gate_callee (f := 51) rfl ?_); refine goesL_ (some 56) rfl rfl Try.func51 (by kernel_rfl) rfl #[.int .i64 x8_2, .int .i64 t772] rfl (by (try simp only [List.map_toArray, List.map_cons, List.map_nil]); first | done | rfl | (simp only [List.length_drop, List.length_take]; rfl)) ?_; (with_reducible refine (impl_fraction.calls k2 x8_2 t772 t773 t774 _ A40.out).mono ?_); rintro e w41 ⟨rfl, hb⟩; refine ⟨_, rfl, ?_⟩; have n0_ := Aside0.mk (Kd.R_below (by (with_reducible repeat (first | apply Kd.R_alloc | apply Kd.R_drewN | apply Kd.R_drew)); exact HO_22.out) hb); have n1_ := Aside0.mk (blk_below (g := gb765) (o := .cells #[.slice A0_0 l0_0.length c0_0] 31 (0, 0)) (by (with_reducible repeat (first | refine blk_drewN ?_ _ | refine blk_drew ?_ | refine blk_alloc ?_ _)); exact BK765.out) hb); have n2_ := Aside0.mk (blk_below (g := gb766) (o := .cells #[.int .i64 0, .int .i64 0] 26 (0, 0)) (by (with_reducible repeat (first | refine blk_drewN ?_ _ | refine blk_drew ?_ | refine blk_alloc ?_ _)); exact BK766.out) hb); have n3_ := Aside0.mk (below_step (by repeat (first | (with_reducible first | exact HB.out | apply below_alloc | apply pw_below_drewN | apply below_drew1 | refine below_set ?_ GE765.out | refine below_set ?_ GE766.out) | exact HB.out)) hb); clear HO_22; clear BK765; clear BK766; clear HB; have HO_22 := n0_; have BK765 := n1_; have BK766 := n2_; have HB := n3_; clear n0_ n1_ n2_ n3_; (try clear hb); (try clear hb2); (try clear hk); (try clear hi); have hnb42 := NB766_765.out; have hnc42 := NB765_766.out; have hcz43_0 : w41.cell? ⟨gb766, 0, none⟩ = some (.int .i64 0) := (blk_cell BK766.out 0).trans rfl; have hcz43_1 : w41.cell? ⟨gb766, 1, none⟩ = some (.int .i64 0) := (blk_cell BK766.out 1).trans rfl; have hfz43_0 := blk_frozen BK766.out 0; have hfz43_1 := blk_frozen BK766.out 1))
       refine bodyPost_ret (results_ct rfl _ _ gb766 26 #[.int .i64 t773, .int .i64 t774] (0, 0) _ rfl (by (with_reducible repeat (first | refine blk_drewN ?_ _ | refine blk_drew ?_ | refine blk_alloc ?_ _)); refine blk_put (cs := #[.int .i64 t773, .int .i64 0]) ?_ 1 _ rfl; (with_reducible repeat (first | refine blk_drewN ?_ _ | refine blk_drew ?_ | refine blk_alloc ?_ _)); refine blk_put (cs := #[.int .i64 0, .int .i64 0]) ?_ 0 _ rfl; (with_reducible repeat (first | refine blk_drewN ?_ _ | refine blk_drew ?_ | refine blk_alloc ?_ _)); exact BK766.out) Try.underlying26 rfl (by kernel_rfl)) rfl ?_
       exact ⟨by first | rfl | (simp [errW_none, errW_some] <;> rfl) | (simp [*, errW_none, errW_some] <;> rfl), by repeat (first | (with_reducible first | exact HB.out | apply below_alloc | apply pw_below_drewN | apply below_drew1 | refine below_set ?_ GE765.out | refine below_set ?_ GE766.out) | exact HB.out)⟩

end Go.Proofs.Ytgagmodkjmegeaa.P

namespace Go.Proofs.Ytgagmodkjmegeaa.P
open Go.RowKit Go.Proofs.YtgagmodkjmegeaaW.PrintWords Go.Proofs.YtgagmodkjmegeaaW.PrintLast Go.Proofs.YtgagmodkjmegeaaW.PrintMore
attribute [local go_sem] max2_int min2_int max_two min_two max_three min_three max_four min_four
set_option linter.unusedVariables false
set_option linter.unusedSimpArgs false

/-! ### laws_FnExactChanceBegins: function 10 -/
def laws_FnExactChanceBegins.j0 : Nat → Bool → List (S82) → List (S80) → Option (Bool)
 | 0, _, _, _ => none
 | k + 1, x43, x780000, x792000 => if x43 = true then (some false) else ((laws_toTrie.f k x780000).bind fun t797 => ((laws_eqTrie.f k x792000 t797).bind fun t800 => (if t800 = true then (some true) else (some false))))
def laws_FnExactChanceBegins.f (k : Nat) (l0_0 : List (S82)) (a1 : Int) (a2 : Int) : Option (Bool) := (laws_szTrie.f l0_0 1048576).bind fun t780 => (if t780 < 0 then (some true) else ((laws_toTrie.f k l0_0).bind fun t781 => ((spec_ChanceBegins.f k t781 a1 a2).bind fun bt784 => ((laws_toTrie.f k l0_0).bind fun t788 => ((impl_ChanceBegins.f k t788 a1 a2).bind fun bt792 => ((laws_eqIntA2.f bt792.1 bt792.2.1 bt784.1 bt784.2.1).bind fun t796 => (if t796 = true then (laws_FnExactChanceBegins.j0 k (bt792.2.2 != bt784.2.2) l0_0 t788) else (laws_FnExactChanceBegins.j0 k true l0_0 t788))))))))
theorem laws_FnExactChanceBegins.mono_l : ∀ k, (∀ y0 y1 y2, LeO (laws_FnExactChanceBegins.j0 k y0 y1 y2) (laws_FnExactChanceBegins.j0 (k + 1) y0 y1 y2))
 | 0 => fun _ _ _ r h => by simp [laws_FnExactChanceBegins.j0] at h
 | k + 1 => by
  have ih0 := laws_FnExactChanceBegins.mono_l k
  ·
   intro y0 y1 y2
   unfold laws_FnExactChanceBegins.j0
   repeat' first
   | (with_reducible exact ih0 _ _ _)
   | (with_reducible exact impl_ChanceBegins.mono _ _ _ _)
   | (with_reducible exact laws_eqTrie.mono _ _ _)
   | (with_reducible exact laws_toTrie.mono _ _)
   | (with_reducible exact spec_ChanceBegins.mono _ _ _ _)
   | (with_reducible exact LeO.refl _)
   | (with_reducible exact LeO.none _)
   | (with_reducible refine LeO.ite ?_ ?_)
   | (with_reducible refine LeO.bind ?_ (fun _ => ?_))
   | exact ih0 _ _ _
   | exact impl_ChanceBegins.mono _ _ _ _
   | exact laws_eqTrie.mono _ _ _
   | exact laws_toTrie.mono _ _
   | exact spec_ChanceBegins.mono _ _ _ _
   | exact LeO.none _
   | refine LeO.ite ?_ ?_
   | refine LeO.bind ?_ (fun _ => ?_)
theorem laws_FnExactChanceBegins.mono : ∀ a0 a1 a2 k, LeO (laws_FnExactChanceBegins.f k a0 a1 a2) (laws_FnExactChanceBegins.f (k + 1) a0 a1 a2) := by
 intro a0 a1 a2 k
 have ih0 := laws_FnExactChanceBegins.mono_l k
 unfold laws_FnExactChanceBegins.f
 repeat' first
   | (with_reducible exact ih0 _ _ _)
   | (with_reducible exact impl_ChanceBegins.mono _ _ _ _)
   | (with_reducible exact laws_eqTrie.mono _ _ _)
   | (with_reducible exact laws_toTrie.mono _ _)
   | (with_reducible exact spec_ChanceBegins.mono _ _ _ _)
   | (with_reducible exact LeO.refl _)
   | (with_reducible exact LeO.none _)
   | (with_reducible refine LeO.ite ?_ ?_)
   | (with_reducible refine LeO.bind ?_ (fun _ => ?_))
   | exact ih0 _ _ _
   | exact impl_ChanceBegins.mono _ _ _ _
   | exact laws_eqTrie.mono _ _ _
   | exact laws_toTrie.mono _ _
   | exact spec_ChanceBegins.mono _ _ _ _
   | exact LeO.none _
   | refine LeO.ite ?_ ?_
   | refine LeO.bind ?_ (fun _ => ?_)
set_option maxHeartbeats 8000000 in
set_option maxRecDepth 100000 in
theorem laws_FnExactChanceBegins.calls (k : Nat) (A0_0 : Option Addr) (c0_0 : Nat) (l0_0 : List (S82)) (a1 : Int) (a2 : Int) (r : Bool) (w : World) (hr0_0 : Kd.C k82 w A0_0 l0_0.length l0_0) (hc0_0 : l0_0.length ≤ c0_0) (h : laws_FnExactChanceBegins.f k l0_0 a1 a2 = some r) :
  Calls Try.prog 10 #[.agg #[.slice A0_0 l0_0.length c0_0], .int .i64 a1, .int .i64 a2] w fun e w' => e = .returned (.bool r) ∧ Below w.heap.size w w' := by
 have hu24 := Try.underlying24
 have hu26 := Try.underlying26
 have hu31 := Try.underlying31
 have HR0_0 := Aside0.mk hr0_0
 have HC0_0 := Aside0.mk hc0_0
 clear hr0_0 hc0_0
 have HB := Aside0.mk (Below.refl w.heap.size w)
 have H : ((laws_szTrie.f l0_0 1048576).bind fun t780 => (if t780 < 0 then (some true) else ((laws_toTrie.f k l0_0).bind fun t781 => ((spec_ChanceBegins.f k t781 a1 a2).bind fun bt784 => ((laws_toTrie.f k l0_0).bind fun t788 => ((impl_ChanceBegins.f k t788 a1 a2).bind fun bt792 => ((laws_eqIntA2.f bt792.1 bt792.2.1 bt784.1 bt784.2.1).bind fun t796 => (if t796 = true then (laws_FnExactChanceBegins.j0 k (bt792.2.2 != bt784.2.2) l0_0 t788) else (laws_FnExactChanceBegins.j0 k true l0_0 t788))))))))) = some r := h
 clear h
 replace H := Option.bind_eq_some_iff.mp H
 obtain ⟨t780, A40, H⟩ := H
 replace H : (if t780 < 0 then (some true) else ((laws_toTrie.f k l0_0).bind fun t781 => ((spec_ChanceBegins.f k t781 a1 a2).bind fun bt784 => ((laws_toTrie.f k l0_0).bind fun t788 => ((impl_ChanceBegins.f k t788 a1 a2).bind fun bt792 => ((laws_eqIntA2.f bt792.1 bt792.2.1 bt784.1 bt784.2.1).bind fun t796 => (if t796 = true then (laws_FnExactChanceBegins.j0 k (bt792.2.2 != bt784.2.2) l0_0 t788) else (laws_FnExactChanceBegins.j0 k true l0_0 t788)))))))) = some r := H
 have A4 := Aside0.mk A40
 clear A40
 by_cases c5 : t780 < 0
 ·
  rw [if_pos c5] at H
  have c5b0 : decide (t780 < 0) = true := decide_eq_true c5
  clear c5
  obtain rfl := Option.some.inj H
  go_enter Try.func10, Try.ntmps10
  go_wp2_with (first | ((with_reducible refine gate_dst (N := 3) rfl ?_); refine box_event ?hg (N := 3) ?hd (cs := #[.slice A0_0 l0_0.length c0_0]) (t := 24) ?hr ?_; (case hd => rfl); (case hg => rfl); (case hr => first | (go_simp; done) | (go_simp; rfl)); intro gb779 hg w6 hbox hb; have n0_ := Aside0.mk (below_step (by repeat (first | (with_reducible first | exact HB.out | apply below_alloc | apply pw_below_drewN | apply below_drew1) | exact HB.out)) hb); have n1_ := Aside0.mk (hbox); have n2_ := Aside0.mk ((by rw [hg]; exact (below_size (by repeat (first | (with_reducible first | exact HB.out | apply below_alloc | apply pw_below_drewN | apply below_drew1) | exact HB.out))) : w.heap.size ≤ gb779)); have n3_ := Aside0.mk ((by rw [hg]; exact (below_size (by repeat (first | (with_reducible first | exact HB.out | apply below_alloc | apply pw_below_drewN | apply below_drew1) | exact HB.out))) : w.heap.size ≤ gb779)); clear HB; have HB := n0_; have BK779 := n1_; have GW779 := n2_; have GE779 := n3_; clear n0_ n1_ n2_ n3_; clear hb hbox hg; have hcz7_0 : w6.cell? ⟨gb779, 0, none⟩ = some (.slice A0_0 l0_0.length c0_0) := (blk_cell BK779.out 0).trans rfl; have hfz7_0 := blk_frozen BK779.out 0) | ((with_reducible refine gate_callee (f := 13) rfl ?_); refine goesL_ (some 15) rfl rfl Try.func13 (by kernel_rfl) rfl #[.agg #[.slice A0_0 l0_0.length c0_0], .int .i64 1048576] rfl (by (try simp only [List.map_toArray, List.map_cons, List.map_nil]); first | done | rfl | (simp only [List.length_drop, List.length_take]; rfl)) ?_; (with_reducible refine (laws_szTrie.calls _ _ l0_0 1048576 t780 _ ?side1 ?side2 A4.out).mono ?_); (case side1 => repeat (first | exact (Kd.C_below HR0_0.out HB.out) | (with_reducible refine Kd.C_alloc ?_ _) | (with_reducible refine Kd.C_drewN ?_ _) | (with_reducible refine Kd.C_drew ?_))); (case side2 => exact HC0_0.out); rintro e w8 ⟨rfl, hb⟩; refine ⟨_, rfl, ?_⟩; have n0_ := Aside0.mk (blk_below (g := gb779) (o := .cells #[.slice A0_0 l0_0.length c0_0] 24 (0, 0)) (by (with_reducible repeat (first | refine blk_drewN ?_ _ | refine blk_drew ?_ | refine blk_alloc ?_ _)); exact BK779.out) hb); have n1_ := Aside0.mk (below_step (by repeat (first | (with_reducible first | exact HB.out | apply below_alloc | apply pw_below_drewN | apply below_drew1 | refine below_set ?_ GE779.out) | exact HB.out)) hb); clear BK779; clear HB; have BK779 := n0_; have HB := n1_; clear n0_ n1_; (try clear hb); (try clear hb2); (try clear hk); (try clear hi)))
  go_ret
  exact ⟨by first | rfl | (simp [errW_none, errW_some] <;> rfl) | (simp [*, errW_none, errW_some] <;> rfl), by repeat (first | (with_reducible first | exact HB.out | apply below_alloc | apply pw_below_drewN | apply below_drew1 | refine below_set ?_ GE779.out) | exact HB.out)⟩
 ·
  rw [if_neg c5] at H
  have c5b0 : decide (t780 < 0) = false := decide_eq_false c5
  clear c5
  replace H := Option.bind_eq_some_iff.mp H
  obtain ⟨t781, A90, H⟩ := H
  replace H : ((spec_ChanceBegins.f k t781 a1 a2).bind fun bt784 => ((laws_toTrie.f k l0_0).bind fun t788 => ((impl_ChanceBegins.f k t788 a1 a2).bind fun bt792 => ((laws_eqIntA2.f bt792.1 bt792.2.1 bt784.1 bt784.2.1).bind fun t796 => (if t796 = true then (laws_FnExactChanceBegins.j0 k (bt792.2.2 != bt784.2.2) l0_0 t788) else (laws_FnExactChanceBegins.j0 k true l0_0 t788)))))) = some r := H
  have A9 := Aside0.mk A90
  clear A90
  replace H := Option.bind_eq_some_iff.mp H
  obtain ⟨⟨t784, t785, t786⟩, A100, H⟩ := H
  replace H : ((laws_toTrie.f k l0_0).bind fun t788 => ((impl_ChanceBegins.f k t788 a1 a2).bind fun bt792 => ((laws_eqIntA2.f bt792.1 bt792.2.1 t784 t785).bind fun t796 => (if t796 = true then (laws_FnExactChanceBegins.j0 k (bt792.2.2 != t786) l0_0 t788) else (laws_FnExactChanceBegins.j0 k true l0_0 t788))))) = some r := H
  have A10 := Aside0.mk A100
  clear A100
  replace H := Option.bind_eq_some_iff.mp H
  obtain ⟨t788, A110, H⟩ := H
  replace H : ((impl_ChanceBegins.f k t788 a1 a2).bind fun bt792 => ((laws_eqIntA2.f bt792.1 bt792.2.1 t784 t785).bind fun t796 => (if t796 = true then (laws_FnExactChanceBegins.j0 k (bt792.2.2 != t786) l0_0 t788) else (laws_FnExactChanceBegins.j0 k true l0_0 t788)))) = some r := H
  have A11 := Aside0.mk A110
  clear A110
  replace H := Option.bind_eq_some_iff.mp H
  obtain ⟨⟨t792, t793, t794⟩, A120, H⟩ := H
  replace H : ((laws_eqIntA2.f t792 t793 t784 t785).bind fun t796 => (if t796 = true then (laws_FnExactChanceBegins.j0 k (t794 != t786) l0_0 t788) else (laws_FnExactChanceBegins.j0 k true l0_0 t788))) = some r := H
  have A12 := Aside0.mk A120
  clear A120
  have HC13 := Aside0.mk H
  clear H
  go_enter Try.func10, Try.ntmps10
  go_upto_region 8 with (first | ((with_reducible refine gate_dst (N := 3) rfl ?_); refine box_event ?hg (N := 3) ?hd (cs := #[.slice A0_0 l0_0.length c0_0]) (t := 24) ?hr ?_; (case hd => rfl); (case hg => rfl); (case hr => first | (go_simp; done) | (go_simp; rfl)); intro gb779 hg w14 hbox hb; have n0_ := Aside0.mk (below_step (by repeat (first | (with_reducible first | exact HB.out | apply below_alloc | apply pw_below_drewN | apply below_drew1) | exact HB.out)) hb); have n1_ := Aside0.mk (hbox); have n2_ := Aside0.mk ((by rw [hg]; exact (below_size (by repeat (first | (with_reducible first | exact HB.out | apply below_alloc | apply pw_below_drewN | apply below_drew1) | exact HB.out))) : w.heap.size ≤ gb779)); have n3_ := Aside0.mk ((by rw [hg]; exact (below_size (by repeat (first | (with_reducible first | exact HB.out | apply below_alloc | apply pw_below_drewN | apply below_drew1) | exact HB.out))) : w.heap.size ≤ gb779)); clear HB; have HB := n0_; have BK779 := n1_; have GW779 := n2_; have GE779 := n3_; clear n0_ n1_ n2_ n3_; clear hb hbox hg; have hcz15_0 : w14.cell? ⟨gb779, 0, none⟩ = some (.slice A0_0 l0_0.length c0_0) := (blk_cell BK779.out 0).trans rfl; have hfz15_0 := blk_frozen BK779.out 0) | ((with_reducible refine gate_callee (f := 13) rfl ?_); refine goesL_ (some 15) rfl rfl Try.func13 (by kernel_rfl) rfl #[.agg #[.slice A0_0 l0_0.length c0_0], .int .i64 1048576] rfl (by (try simp only [List.map_toArray, List.map_cons, List.map_nil]); first | done | rfl | (simp only [List.length_drop, List.length_take]; rfl)) ?_; (with_reducible refine (laws_szTrie.calls _ _ l0_0 1048576 t780 _ ?side1 ?side2 A4.out).mono ?_); (case side1 => repeat (first | exact (Kd.C_below HR0_0.out HB.out) | (with_reducible refine Kd.C_alloc ?_ _) | (with_reducible refine Kd.C_drewN ?_ _) | (with_reducible refine Kd.C_drew ?_))); (case side2 => exact HC0_0.out); rintro e w16 ⟨rfl, hb⟩; refine ⟨_, rfl, ?_⟩; have n0_ := Aside0.mk (blk_below (g := gb779) (o := .cells #[.slice A0_0 l0_0.length c0_0] 24 (0, 0)) (by (with_reducible repeat (first | refine blk_drewN ?_ _ | refine blk_drew ?_ | refine blk_alloc ?_ _)); exact BK779.out) hb); have n1_ := Aside0.mk (below_step (by repeat (first | (with_reducible first | exact HB.out | apply below_alloc | apply pw_below_drewN | apply below_drew1 | refine below_set ?_ GE779.out) | exact HB.out)) hb); clear BK779; clear HB; have BK779 := n0_; have HB := n1_; clear n0_ n1_; (try clear hb); (try clear hb2); (try clear hk); (try clear hi); have hcz17_0 : w16.cell? ⟨gb779, 0, none⟩ = some (.slice A0_0 l0_0.length c0_0) := (blk_cell BK779.out 0).trans rfl; have hfz17_0 := blk_frozen BK779.out 0) | ((with_reducible refine gate_callee (f := 15) rfl ?_); refine goesL_ (some 20) rfl rfl Try.func15 (by kernel_rfl) rfl #[.agg #[.slice A0_0 l0_0.length c0_0]] rfl (by (try simp only [List.map_toArray, List.map_cons, List.map_nil]); first | done | rfl | (simp only [List.length_drop, List.length_take]; rfl)) ?_; (with_reducible refine (laws_toTrie.calls k _ _ l0_0 t781 _ ?side1 ?side2 A9.out).mono ?_); (case side1 => repeat (first | exact (Kd.C_below HR0_0.out HB.out) | (with_reducible refine Kd.C_alloc ?_ _) | (with_reducible refine Kd.C_drewN ?_ _) | (with_reducible refine Kd.C_drew ?_))); (case side2 => exact HC0_0.out); rintro e w18 ⟨v782, rfl, ho0, hb⟩; refine ⟨_, rfl, ?_⟩; have n0_ := Aside0.mk (Kd.R_lower ho0 (below_size (by repeat (first | (with_reducible first | exact HB.out | apply below_alloc | apply pw_below_drewN | apply below_drew1 | refine below_set ?_ GE779.out) | exact HB.out)))); have n1_ := Aside0.mk (blk_below (g := gb779) (o := .cells #[.slice A0_0 l0_0.length c0_0] 24 (0, 0)) (by (with_reducible repeat (first | refine blk_drewN ?_ _ | refine blk_drew ?_ | refine blk_alloc ?_ _)); exact BK779.out) hb); have n2_ := Aside0.mk (below_step (by repeat (first | (with_reducible first | exact HB.out | apply below_alloc | apply pw_below_drewN | apply below_drew1 | refine below_set ?_ GE779.out) | exact HB.out)) hb); clear BK779; clear HB; have HO783 := n0_; have BK779 := n1_; have HB := n2_; clear n0_ n1_ n2_; (try clear hb); (try clear hb2); (try clear hk); (try clear hi); (try clear ho0); obtain ⟨Ao19, co19, eo19⟩ := Kd.R_slice HO783.out; subst eo19) | ((with_reducible refine gate_callee (f := 31) rfl ?_); refine goesL_ (some 23) rfl rfl Try.func31 (by kernel_rfl) rfl #[.agg #[.slice Ao19 t781.length co19], .int .i64 a1, .int .i64 a2] rfl (by (try simp only [List.map_toArray, List.map_cons, List.map_nil]); first | done | rfl | (simp only [List.length_drop, List.length_take]; rfl)) ?_; (with_reducible refine (spec_ChanceBegins.calls k _ _ t781 a1 a2 t784 t785 t786 _ ?side1 ?side2 A10.out).mono ?_); (case side1 => repeat (first | exact (Kd.R_reads' HO783.out).2.2 | (with_reducible refine Kd.C_alloc ?_ _) | (with_reducible refine Kd.C_drewN ?_ _) | (with_reducible refine Kd.C_drew ?_))); (case side2 => exact (Kd.R_reads' HO783.out).2.1); rintro e w20 ⟨rfl, hb⟩; refine ⟨_, rfl, ?_⟩; have n0_ := Aside0.mk (Kd.R_below (by (with_reducible repeat (first | apply Kd.R_alloc | apply Kd.R_drewN | apply Kd.R_drew)); exact HO783.out) hb); have n1_ := Aside0.mk (blk_below (g := gb779) (o := .cells #[.slice A0_0 l0_0.length c0_0] 24 (0, 0)) (by (with_reducible repeat (first | refine blk_drewN ?_ _ | refine blk_drew ?_ | refine blk_alloc ?_ _)); exact BK779.out) hb); have n2_ := Aside0.mk (below_step (by repeat (first | (with_reducible first | exact HB.out | apply below_alloc | apply pw_below_drewN | apply below_drew1 | refine below_set ?_ GE779.out) | exact HB.out)) hb); clear HO783; clear BK779; clear HB; have HO783 := n0_; have BK779 := n1_; have HB := n2_; clear n0_ n1_ n2_; (try clear hb); (try clear hb2); (try clear hk); (try clear hi)) | ((with_reducible refine gate_dst (N := 8) rfl ?_); refine box_event ?hg (N := 8) ?hd (cs := #[.int .i64 0, .int .i64 0]) (t := 26) ?hr ?_; (case hd => rfl); (case hg => rfl); (case hr => first | (go_simp; done) | (go_simp; rfl)); intro gb787 hg w21 hbox hb; have n0_ := Aside0.mk (Kd.R_below (by (with_reducible repeat (first | apply Kd.R_alloc | apply Kd.R_drewN | apply Kd.R_drew)); exact HO783.out) hb); have n1_ := Aside0.mk (blk_below (g := gb779) (o := .cells #[.slice A0_0 l0_0.length c0_0] 24 (0, 0)) (by (with_reducible repeat (first | refine blk_drewN ?_ _ | refine blk_drew ?_ | refine blk_alloc ?_ _)); exact BK779.out) hb); have n2_ := Aside0.mk (below_step (by repeat (first | (with_reducible first | exact HB.out | apply below_alloc | apply pw_below_drewN | apply below_drew1 | refine below_set ?_ GE779.out) | exact HB.out)) hb); have n3_ := Aside0.mk (hbox); have n4_ := Aside0.mk ((by rw [hg]; exact (below_size (by repeat (first | (with_reducible first | exact HB.out | apply below_alloc | apply pw_below_drewN | apply below_drew1 | refine below_set ?_ GE779.out) | exact HB.out))) : w.heap.size ≤ gb787)); have n5_ := Aside0.mk ((by rw [hg]; exact (below_size (by repeat (first | (with_reducible first | exact HB.out | apply below_alloc | apply pw_below_drewN | apply below_drew1 | refine below_set ?_ GE779.out) | exact HB.out))) : w.heap.size ≤ gb787)); have n6_ := Aside0.mk ((by rw [hg]; exact Nat.ne_of_lt (blk_lt (g := gb779) (o := .cells #[.slice A0_0 l0_0.length c0_0] 24 (0, 0)) (by (with_reducible repeat (first | refine blk_drewN ?_ _ | refine blk_drew ?_ | refine blk_alloc ?_ _)); exact BK779.out)) : gb779 ≠ gb787)); have n7_ := Aside0.mk ((by rw [hg]; exact Nat.ne_of_gt (blk_lt (g := gb779) (o := .cells #[.slice A0_0 l0_0.length c0_0] 24 (0, 0)) (by (with_reducible repeat (first | refine blk_drewN ?_ _ | refine blk_drew ?_ | refine blk_alloc ?_ _)); exact BK779.out)) : gb787 ≠ gb779)); clear HO783; clear BK779; clear HB; have HO783 := n0_; have BK779 := n1_; have HB := n2_; have BK787 := n3_; have GW787 := n4_; have GE787 := n5_; have NB779_787 := n6_; have NB787_779 := n7_; clear n0_ n1_ n2_ n3_ n4_ n5_ n6_ n7_; clear hb hbox hg; have hnb22 := NB787_779.out; have hnc22 := NB779_787.out; have hcz23_0 : w21.cell? ⟨gb787, 0, none⟩ = some (.int .i64 0) := (blk_cell BK787.out 0).trans rfl; have hcz23_1 : w21.cell? ⟨gb787, 1, none⟩ = some (.int .i64 0) := (blk_cell BK787.out 1).trans rfl; have hfz23_0 := blk_frozen BK787.out 0; have hfz23_1 := blk_frozen BK787.out 1; have hcz24_0 : w21.cell? ⟨gb779, 0, none⟩ = some (.slice A0_0 l0_0.length c0_0) := (blk_cell BK779.out 0).trans rfl; have hfz24_0 := blk_frozen BK779.out 0) | ((with_reducible refine gate_callee (f := 15) rfl ?_); refine goesL_ (some 27) rfl rfl Try.func15 (by kernel_rfl) rfl #[.agg #[.slice A0_0 l0_0.length c0_0]] rfl (by (try simp only [List.map_toArray, List.map_cons, List.map_nil]); first | done | rfl | (simp only [List.length_drop, List.length_take]; rfl)) ?_; (with_reducible refine (laws_toTrie.calls k _ _ l0_0 t788 _ ?side1 ?side2 A11.out).mono ?_); (case side1 => exact Kd.C_below HR0_0.out (by repeat (first | (with_reducible first | exact HB.out | apply below_alloc | apply pw_below_drewN | apply below_drew1 | refine below_set ?_ GE779.out | refine below_set ?_ GE787.out) | exact HB.out))); (case side2 => exact HC0_0.out); rintro e w25 ⟨v789, rfl, ho0, hb⟩; refine ⟨_, rfl, ?_⟩; have n0_ := Aside0.mk (Kd.R_elder' (by (with_reducible repeat (first | apply Kd.R_alloc | apply Kd.R_drewN | apply Kd.R_drew)); exact (Kd.R_mono (Kd.R_far (p := ⟨gb787, 1, none⟩) (Kd.R_far (p := ⟨gb787, 0, none⟩) (Kd.R_types HO783.out BK787.out (by decide)) (fun _ hk => hk.2) (.int .i64 t784)) (fun _ hk => hk.2) (.int .i64 t785)) (fun _ h_ => h_.1))) (Kd.R_base ho0) hb); have n1_ := Aside0.mk (Kd.R_lower (Kd.R_new' ho0 (Kd.R_lt (by (with_reducible repeat (first | apply Kd.R_alloc | apply Kd.R_drewN | apply Kd.R_drew)); exact (Kd.R_mono (Kd.R_far (p := ⟨gb787, 1, none⟩) (Kd.R_far (p := ⟨gb787, 0, none⟩) (Kd.R_types HO783.out BK787.out (by decide)) (fun _ hk => hk.2) (.int .i64 t784)) (fun _ hk => hk.2) (.int .i64 t785)) (fun _ h_ => h_.1))))) (below_size (by repeat (first | (with_reducible first | exact HB.out | apply below_alloc | apply pw_below_drewN | apply below_drew1 | refine below_set ?_ GE779.out | refine below_set ?_ GE787.out) | exact HB.out)))); have n2_ := Aside0.mk (blk_below (g := gb779) (o := .cells #[.slice A0_0 l0_0.length c0_0] 24 (0, 0)) (by (with_reducible repeat (first | refine blk_drewN ?_ _ | refine blk_drew ?_ | refine blk_alloc ?_ _)); refine blk_far ?_ NB779_787.out _; (with_reducible repeat (first | refine blk_drewN ?_ _ | refine blk_drew ?_ | refine blk_alloc ?_ _)); refine blk_far ?_ NB779_787.out _; (with_reducible repeat (first | refine blk_drewN ?_ _ | refine blk_drew ?_ | refine blk_alloc ?_ _)); exact BK779.out) hb); have n3_ := Aside0.mk (blk_below (g := gb787) (o := .cells #[.int .i64 t784, .int .i64 t785] 26 (0, 0)) (by (with_reducible repeat (first | refine blk_drewN ?_ _ | refine blk_drew ?_ | refine blk_alloc ?_ _)); refine blk_put (cs := #[.int .i64 t784, .int .i64 0]) ?_ 1 _ rfl; (with_reducible repeat (first | refine blk_drewN ?_ _ | refine blk_drew ?_ | refine blk_alloc ?_ _)); refine blk_put (cs := #[.int .i64 0, .int .i64 0]) ?_ 0 _ rfl; (with_reducible repeat (first | refine blk_drewN ?_ _ | refine blk_drew ?_ | refine blk_alloc ?_ _)); exact BK787.out) hb); have n4_ := Aside0.mk (below_step (by repeat (first | (with_reducible first | exact HB.out | apply below_alloc | apply pw_below_drewN | apply below_drew1 | refine below_set ?_ GE779.out | refine below_set ?_ GE787.out) | exact HB.out)) hb); clear HO783; clear BK779; clear BK787; clear HB; have HO783 := n0_; have HO790 := n1_; have BK779 := n2_; have BK787 := n3_; have HB := n4_; clear n0_ n1_ n2_ n3_ n4_; (try clear hb); (try clear hb2); (try clear hk); (try clear hi); (try clear ho0)) | ((with_reducible refine gate_dst (N := 10) rfl ?_); refine box_event ?hg (N := 10) ?hd (cs := #[.slice none 0 0]) (t := 31) ?hr ?_; (case hd => rfl); (case hg => rfl); (case hr => first | (go_simp; done) | (go_simp; rfl)); intro gb791 hg w26 hbox hb; have n0_ := Aside0.mk (Kd.R_below (by (with_reducible repeat (first | apply Kd.R_alloc | apply Kd.R_drewN | apply Kd.R_drew)); exact HO783.out) hb); have n1_ := Aside0.mk (Kd.R_below (by (with_reducible repeat (first | apply Kd.R_alloc | apply Kd.R_drewN | apply Kd.R_drew)); exact HO790.out) hb); have n2_ := Aside0.mk (blk_below (g := gb779) (o := .cells #[.slice A0_0 l0_0.length c0_0] 24 (0, 0)) (by (with_reducible repeat (first | refine blk_drewN ?_ _ | refine blk_drew ?_ | refine blk_alloc ?_ _)); exact BK779.out) hb); have n3_ := Aside0.mk (blk_below (g := gb787) (o := .cells #[.int .i64 t784, .int .i64 t785] 26 (0, 0)) (by (with_reducible repeat (first | refine blk_drewN ?_ _ | refine blk_drew ?_ | refine blk_alloc ?_ _)); exact BK787.out) hb); have n4_ := Aside0.mk (below_step (by repeat (first | (with_reducible first | exact HB.out | apply below_alloc | apply pw_below_drewN | apply below_drew1 | refine below_set ?_ GE779.out | refine below_set ?_ GE787.out) | exact HB.out)) hb); have n5_ := Aside0.mk (hbox); have n6_ := Aside0.mk ((by rw [hg]; exact (below_size (by repeat (first | (with_reducible first | exact HB.out | apply below_alloc | apply pw_below_drewN | apply below_drew1 | refine below_set ?_ GE779.out | refine below_set ?_ GE787.out) | exact HB.out))) : w.heap.size ≤ gb791)); have n7_ := Aside0.mk ((by rw [hg]; exact (below_size (by repeat (first | (with_reducible first | exact HB.out | apply below_alloc | apply pw_below_drewN | apply below_drew1 | refine below_set ?_ GE779.out | refine below_set ?_ GE787.out) | exact HB.out))) : w.heap.size ≤ gb791)); have n8_ := Aside0.mk ((by rw [hg]; exact Nat.ne_of_lt (blk_lt (g := gb779) (o := .cells #[.slice A0_0 l0_0.length c0_0] 24 (0, 0)) (by (with_reducible repeat (first | refine blk_drewN ?_ _ | refine blk_drew ?_ | refine blk_alloc ?_ _)); exact BK779.out)) : gb779 ≠ gb791)); have n9_ := Aside0.mk ((by rw [hg]; exact Nat.ne_of_gt (blk_lt (g := gb779) (o := .cells #[.slice A0_0 l0_0.length c0_0] 24 (0, 0)) (by (with_reducible repeat (first | refine blk_drewN ?_ _ | refine blk_drew ?_ | refine blk_alloc ?_ _)); exact BK779.out)) : gb791 ≠ gb779)); have n10_ := Aside0.mk ((by rw [hg]; exact Nat.ne_of_lt (blk_lt (g := gb787) (o := .cells #[.int .i64 t784, .int .i64 t785] 26 (0, 0)) (by (with_reducible repeat (first | refine blk_drewN ?_ _ | refine blk_drew ?_ | refine blk_alloc ?_ _)); exact BK787.out)) : gb787 ≠ gb791)); have n11_ := Aside0.mk ((by rw [hg]; exact Nat.ne_of_gt (blk_lt (g := gb787) (o := .cells #[.int .i64 t784, .int .i64 t785] 26 (0, 0)) (by (with_reducible repeat (first | refine blk_drewN ?_ _ | refine blk_drew ?_ | refine blk_alloc ?_ _)); exact BK787.out)) : gb791 ≠ gb787)); clear HO783; clear HO790; clear BK779; clear BK787; clear HB; have HO783 := n0_; have HO790 := n1_; have BK779 := n2_; have BK787 := n3_; have HB := n4_; have BK791 := n5_; have GW791 := n6_; have GE791 := n7_; have NB779_791 := n8_; have NB791_779 := n9_; have NB787_791 := n10_; have NB791_787 := n11_; clear n0_ n1_ n2_ n3_ n4_ n5_ n6_ n7_ n8_ n9_ n10_ n11_; clear hb hbox hg; obtain ⟨Ao27, co27, eo27⟩ := Kd.R_slice HO790.out; subst eo27; have hnb28 := NB791_779.out; have hnc28 := NB779_791.out; have hnb29 := NB791_787.out; have hnc29 := NB787_791.out; have hcz30_0 : w26.cell? ⟨gb791, 0, none⟩ = some (.slice none 0 0) := (blk_cell BK791.out 0).trans rfl; have hfz30_0 := blk_frozen BK791.out 0) | ((with_reducible refine gate_callee (f := 32) rfl ?_); refine goesL_ (some 32) rfl rfl Try.func32 (by kernel_rfl) rfl #[.agg #[.slice Ao27 t788.length co27], .int .i64 a1, .int .i64 a2] rfl (by (try simp only [List.map_toArray, List.map_cons, List.map_nil]); first | done | rfl | (simp only [List.length_drop, List.length_take]; rfl)) ?_; (with_reducible refine (impl_ChanceBegins.calls k _ _ t788 a1 a2 t792 t793 t794 _ ?side1 ?side2 A12.out).mono ?_); (case side1 => refine (Kd.R_reads' (e := 80) (base := w.heap.size) (ok := fun k_ => (True ∧ some k_ ≠ (.slice Ao19 t781.length co19 : Value).ownBlock)) (n := t788.length) (c := co27) ?_).2.2; exact (by (with_reducible repeat (first | apply Kd.R_alloc | apply Kd.R_drewN | apply Kd.R_drew)); exact (Kd.R_mono (Kd.R_far (p := ⟨gb791, 0, none⟩) (Kd.R_types HO790.out BK791.out (by decide)) (fun _ hk => hk.2) (.slice Ao27 t788.length co27)) (fun _ h_ => h_.1)))); (case side2 => exact (Kd.R_reads' HO790.out).2.1); rintro e w31 ⟨rfl, hb⟩; refine ⟨_, rfl, ?_⟩; have n0_ := Aside0.mk (Kd.R_below (by (with_reducible repeat (first | apply Kd.R_alloc | apply Kd.R_drewN | apply Kd.R_drew)); exact (Kd.R_mono (Kd.R_far (p := ⟨gb791, 0, none⟩) (Kd.R_types HO783.out BK791.out (by decide)) (fun _ hk => hk.2) (.slice Ao27 t788.length co27)) (fun _ h_ => h_.1))) hb); have n1_ := Aside0.mk (Kd.R_below (by (with_reducible repeat (first | apply Kd.R_alloc | apply Kd.R_drewN | apply Kd.R_drew)); exact (Kd.R_mono (Kd.R_far (p := ⟨gb791, 0, none⟩) (Kd.R_types HO790.out BK791.out (by decide)) (fun _ hk => hk.2) (.slice Ao27 t788.length co27)) (fun _ h_ => h_.1))) hb); have n2_ := Aside0.mk (blk_below (g := gb779) (o := .cells #[.slice A0_0 l0_0.length c0_0] 24 (0, 0)) (by (with_reducible repeat (first | refine blk_drewN ?_ _ | refine blk_drew ?_ | refine blk_alloc ?_ _)); refine blk_far ?_ NB779_791.out _; (with_reducible repeat (first | refine blk_drewN ?_ _ | refine blk_drew ?_ | refine blk_alloc ?_ _)); exact BK779.out) hb); have n3_ := Aside0.mk (blk_below (g := gb787) (o := .cells #[.int .i64 t784, .int .i64 t785] 26 (0, 0)) (by (with_reducible repeat (first | refine blk_drewN ?_ _ | refine blk_drew ?_ | refine blk_alloc ?_ _)); refine blk_far ?_ NB787_791.out _; (with_reducible repeat (first | refine blk_drewN ?_ _ | refine blk_drew ?_ | refine blk_alloc ?_ _)); exact BK787.out) hb); have n4_ := Aside0.mk (blk_below (g := gb791) (o := .cells #[.slice Ao27 t788.length co27] 31 (0, 0)) (by (with_reducible repeat (first | refine blk_drewN ?_ _ | refine blk_drew ?_ | refine blk_alloc ?_ _)); refine blk_put (cs := #[.slice none 0 0]) ?_ 0 _ rfl; (with_reducible repeat (first | refine blk_drewN ?_ _ | refine blk_drew ?_ | refine blk_alloc ?_ _)); exact BK791.out) hb); have n5_ := Aside0.mk (below_step (by repeat (first | (with_reducible first | exact HB.out | apply below_alloc | apply pw_below_drewN | apply below_drew1 | refine below_set ?_ GE779.out | refine below_set ?_ GE787.out | refine below_set ?_ GE791.out) | exact HB.out)) hb); clear HO783; clear HO790; clear BK779; clear BK787; clear BK791; clear HB; have HO783 := n0_; have HO790 := n1_; have BK779 := n2_; have BK787 := n3_; have BK791 := n4_; have HB := n5_; clear n0_ n1_ n2_ n3_ n4_ n5_; (try clear hb); (try clear hb2); (try clear hk); (try clear hi)) | ((with_reducible refine gate_dst (N := 11) rfl ?_); refine box_event ?hg (N := 11) ?hd (cs := #[.int .i64 0, .int .i64 0]) (t := 26) ?hr ?_; (case hd => rfl); (case hg => rfl); (case hr => first | (go_simp; done) | (go_simp; rfl)); intro gb795 hg w32 hbox hb; have n0_ := Aside0.mk (Kd.R_below (by (with_reducible repeat (first | apply Kd.R_alloc | apply Kd.R_drewN | apply Kd.R_drew)); exact HO783.out) hb); have n1_ := Aside0.mk (Kd.R_below (by (with_reducible repeat (first | apply Kd.R_alloc | apply Kd.R_drewN | apply Kd.R_drew)); exact HO790.out) hb); have n2_ := Aside0.mk (blk_below (g := gb779) (o := .cells #[.slice A0_0 l0_0.length c0_0] 24 (0, 0)) (by (with_reducible repeat (first | refine blk_drewN ?_ _ | refine blk_drew ?_ | refine blk_alloc ?_ _)); exact BK779.out) hb); have n3_ := Aside0.mk (blk_below (g := gb787) (o := .cells #[.int .i64 t784, .int .i64 t785] 26 (0, 0)) (by (with_reducible repeat (first | refine blk_drewN ?_ _ | refine blk_drew ?_ | refine blk_alloc ?_ _)); exact BK787.out) hb); have n4_ := Aside0.mk (blk_below (g := gb791) (o := .cells #[.slice Ao27 t788.length co27] 31 (0, 0)) (by (with_reducible repeat (first | refine blk_drewN ?_ _ | refine blk_drew ?_ | refine blk_alloc ?_ _)); exact BK791.out) hb); have n5_ := Aside0.mk (below_step (by repeat (first | (with_reducible first | exact HB.out | apply below_alloc | apply pw_below_drewN | apply below_drew1 | refine below_set ?_ GE779.out | refine below_set ?_ GE787.out | refine below_set ?_ GE791.out) | exact HB.out)) hb); have n6_ := Aside0.mk (hbox); have n7_ := Aside0.mk ((by rw [hg]; exact (below_size (by repeat (first | (with_reducible first | exact HB.out | apply below_alloc | apply pw_below_drewN | apply below_drew1 | refine below_set ?_ GE779.out | refine below_set ?_ GE787.out | refine below_set ?_ GE791.out) | exact HB.out))) : w.heap.size ≤ gb795)); have n8_ := Aside0.mk ((by rw [hg]; exact (below_size (by repeat (first | (with_reducible first | exact HB.out | apply below_alloc | apply pw_below_drewN | apply below_drew1 | refine below_set ?_ GE779.out | refine below_set ?_ GE787.out | refine below_set ?_ GE791.out) | exact HB.out))) : w.heap.size ≤ gb795)); have n9_ := Aside0.mk ((by rw [hg]; exact Nat.ne_of_lt (blk_lt (g := gb779) (o := .cells #[.slice A0_0 l0_0.length c0_0] 24 (0, 0)) (by (with_reducible repeat (first | refine blk_drewN ?_ _ | refine blk_drew ?_ | refine blk_alloc ?_ _)); exact BK779.out)) : gb779 ≠ gb795)); have n10_ := Aside0.mk ((by rw [hg]; exact Nat.ne_of_gt (blk_lt (g := gb779) (o := .cells #[.slice A0_0 l0_0.length c0_0] 24 (0, 0)) (by (with_reducible repeat (first | refine blk_drewN ?_ _ | refine blk_drew ?_ | refine blk_alloc ?_ _)); exact BK779.out)) : gb795 ≠ gb779)); have n11_ := Aside0.mk ((by rw [hg]; exact Nat.ne_of_lt (blk_lt (g := gb787) (o := .cells #[.int .i64 t784, .int .i64 t785] 26 (0, 0)) (by (with_reducible repeat (first | refine blk_drewN ?_ _ | refine blk_drew ?_ | refine blk_alloc ?_ _)); exact BK787.out)) : gb787 ≠ gb795)); have n12_ := Aside0.mk ((by rw [hg]; exact Nat.ne_of_gt (blk_lt (g := gb787) (o := .cells #[.int .i64 t784, .int .i64 t785] 26 (0, 0)) (by (with_reducible repeat (first | refine blk_drewN ?_ _ | refine blk_drew ?_ | refine blk_alloc ?_ _)); exact BK787.out)) : gb795 ≠ gb787)); have n13_ := Aside0.mk ((by rw [hg]; exact Nat.ne_of_lt (blk_lt (g := gb791) (o := .cells #[.slice Ao27 t788.length co27] 31 (0, 0)) (by (with_reducible repeat (first | refine blk_drewN ?_ _ | refine blk_drew ?_ | refine blk_alloc ?_ _)); exact BK791.out)) : gb791 ≠ gb795)); have n14_ := Aside0.mk ((by rw [hg]; exact Nat.ne_of_gt (blk_lt (g := gb791) (o := .cells #[.slice Ao27 t788.length co27] 31 (0, 0)) (by (with_reducible repeat (first | refine blk_drewN ?_ _ | refine blk_drew ?_ | refine blk_alloc ?_ _)); exact BK791.out)) : gb795 ≠ gb791)); clear HO783; clear HO790; clear BK779; clear BK787; clear BK791; clear HB; have HO783 := n0_; have HO790 := n1_; have BK779 := n2_; have BK787 := n3_; have BK791 := n4_; have HB := n5_; have BK795 := n6_; have GW795 := n7_; have GE795 := n8_; have NB779_795 := n9_; have NB795_779 := n10_; have NB787_795 := n11_; have NB795_787 := n12_; have NB791_795 := n13_; have NB795_791 := n14_; clear n0_ n1_ n2_ n3_ n4_ n5_ n6_ n7_ n8_ n9_ n10_ n11_ n12_ n13_ n14_; clear hb hbox hg; have hnb33 := NB795_779.out; have hnc33 := NB779_795.out; have hnb34 := NB795_787.out; have hnc34 := NB787_795.out; have hnb35 := NB795_791.out; have hnc35 := NB791_795.out; have hcz36_0 : w32.cell? ⟨gb795, 0, none⟩ = some (.int .i64 0) := (blk_cell BK795.out 0).trans rfl; have hcz36_1 : w32.cell? ⟨gb795, 1, none⟩ = some (.int .i64 0) := (blk_cell BK795.out 1).trans rfl; have hfz36_0 := blk_frozen BK795.out 0; have hfz36_1 := blk_frozen BK795.out 1))
  (try simp only [Act.put, List.setIfInBounds_toArray, List.set_cons_zero, List.set_cons_succ])
  go_cut [43] (fun v43 wc => ∃ (kq : Nat) (x43_12 : Bool), v43 = .bool x43_12 ∧ Aside0 (laws_FnExactChanceBegins.j0 kq x43_12 l0_0 t788 = some r) ∧ Aside0 (kq ≤ k) ∧ Aside0 (Kd.R k80 80 wc w.heap.size (fun _ => True) (.slice Ao27 t788.length co27) t788) ∧ Aside0 (wc.heap[gb779]? = some (.cells #[(.slice A0_0 l0_0.length c0_0)] 24 (0, 0))) ∧ Aside0 (wc.heap[gb787]? = some (.cells #[.int .i64 t784, .int .i64 t785] 26 (0, 0))) ∧ Aside0 (wc.heap[gb791]? = some (.cells #[(.slice Ao27 t788.length co27)] 31 (0, 0))) ∧ Aside0 (wc.heap[gb795]? = some (.cells #[.int .i64 t792, .int .i64 t793] 26 (0, 0))) ∧ Aside0 (Below w.heap.size w wc))
  case first =>
   have H := HC13.out
   clear HC13
   replace H := Option.bind_eq_some_iff.mp H
   obtain ⟨t796, A370, H⟩ := H
   replace H : (if t796 = true then (laws_FnExactChanceBegins.j0 k (t794 != t786) l0_0 t788) else (laws_FnExactChanceBegins.j0 k true l0_0 t788)) = some r := H
   have A37 := Aside0.mk A370
   clear A370
   by_cases c38 : t796 = true
   ·
    subst c38
    have H1 : (laws_FnExactChanceBegins.j0 k (t794 != t786) l0_0 t788) = some r := by rw [if_pos rfl] at H; exact H
    clear H
    have H := H1
    clear H1
    have H' := Aside0.mk H
    clear H
    have hnb39 := NB795_779.out
    have hnc39 := NB779_795.out
    have hnb40 := NB795_787.out
    have hnc40 := NB787_795.out
    have hnb41 := NB795_791.out
    have hnc41 := NB791_795.out
    have hcz42_0 : w32.cell? ⟨gb795, 0, none⟩ = some (.int .i64 0) := (blk_cell BK795.out 0).trans rfl
    have hcz42_1 : w32.cell? ⟨gb795, 1, none⟩ = some (.int .i64 0) := (blk_cell BK795.out 1).trans rfl
    have hfz42_0 := blk_frozen BK795.out 0
    have hfz42_1 := blk_frozen BK795.out 1
    have hnb43 := NB787_779.out
    have hnc43 := NB779_787.out
    have hnb44 := NB787_791.out
    have hnc44 := NB791_787.out
    have hcz45_0 : w32.cell? ⟨gb787, 0, none⟩ = some (.int .i64 t784) := (blk_cell BK787.out 0).trans rfl
    have hcz45_1 : w32.cell? ⟨gb787, 1, none⟩ = some (.int .i64 t785) := (blk_cell BK787.out 1).trans rfl
    have hfz45_0 := blk_frozen BK787.out 0
    have hfz45_1 := blk_frozen BK787.out 1
    go_wp2_with (first | ((with_reducible refine gate_callee (f := 17) rfl ?_); refine goesL_ (some 37) rfl rfl Try.func17 (by kernel_rfl) rfl #[.agg #[.int .i64 t792, .int .i64 t793], .agg #[.int .i64 t784, .int .i64 t785]] rfl (by (try simp only [List.map_toArray, List.map_cons, List.map_nil]); first | done | rfl | (simp only [List.length_drop, List.length_take]; rfl)) ?_; (with_reducible refine (laws_eqIntA2.calls t792 t793 t784 t785 true _ A37.out).mono ?_); rintro e w46 ⟨rfl, hb⟩; refine ⟨_, rfl, ?_⟩; have n0_ := Aside0.mk (Kd.R_below (by (with_reducible repeat (first | apply Kd.R_alloc | apply Kd.R_drewN | apply Kd.R_drew)); exact (Kd.R_mono (Kd.R_far (p := ⟨gb795, 1, none⟩) (Kd.R_far (p := ⟨gb795, 0, none⟩) (Kd.R_types HO783.out BK795.out (by decide)) (fun _ hk => hk.2) (.int .i64 t792)) (fun _ hk => hk.2) (.int .i64 t793)) (fun _ h_ => h_.1))) hb); have n1_ := Aside0.mk (Kd.R_below (by (with_reducible repeat (first | apply Kd.R_alloc | apply Kd.R_drewN | apply Kd.R_drew)); exact (Kd.R_mono (Kd.R_far (p := ⟨gb795, 1, none⟩) (Kd.R_far (p := ⟨gb795, 0, none⟩) (Kd.R_types HO790.out BK795.out (by decide)) (fun _ hk => hk.2) (.int .i64 t792)) (fun _ hk => hk.2) (.int .i64 t793)) (fun _ h_ => h_.1))) hb); have n2_ := Aside0.mk (blk_below (g := gb779) (o := .cells #[.slice A0_0 l0_0.length c0_0] 24 (0, 0)) (by (with_reducible repeat (first | refine blk_drewN ?_ _ | refine blk_drew ?_ | refine blk_alloc ?_ _)); refine blk_far ?_ NB779_795.out _; (with_reducible repeat (first | refine blk_drewN ?_ _ | refine blk_drew ?_ | refine blk_alloc ?_ _)); refine blk_far ?_ NB779_795.out _; (with_reducible repeat (first | refine blk_drewN ?_ _ | refine blk_drew ?_ | refine blk_alloc ?_ _)); exact BK779.out) hb); have n3_ := Aside0.mk (blk_below (g := gb787) (o := .cells #[.int .i64 t784, .int .i64 t785] 26 (0, 0)) (by (with_reducible repeat (first | refine blk_drewN ?_ _ | refine blk_drew ?_ | refine blk_alloc ?_ _)); refine blk_far ?_ NB787_795.out _; (with_reducible repeat (first | refine blk_drewN ?_ _ | refine blk_drew ?_ | refine blk_alloc ?_ _)); refine blk_far ?_ NB787_795.out _; (with_reducible repeat (first | refine blk_drewN ?_ _ | refine blk_drew ?_ | refine blk_alloc ?_ _)); exact BK787.out) hb); have n4_ := Aside0.mk (blk_below (g := gb791) (o := .cells #[.slice Ao27 t788.length co27] 31 (0, 0)) (by (with_reducible repeat (first | refine blk_drewN ?_ _ | refine blk_drew ?_ | refine blk_alloc ?_ _)); refine blk_far ?_ NB791_795.out _; (with_reducible repeat (first | refine blk_drewN ?_ _ | refine blk_drew ?_ | refine blk_alloc ?_ _)); refine blk_far ?_ NB791_795.out _; (with_reducible repeat (first | refine blk_drewN ?_ _ | refine blk_drew ?_ | refine blk_alloc ?_ _)); exact BK791.out) hb); have n5_ := Aside0.mk (blk_below (g := gb795) (o := .cells #[.int .i64 t792, .int .i64 t793] 26 (0, 0)) (by (with_reducible repeat (first | refine blk_drewN ?_ _ | refine blk_drew ?_ | refine blk_alloc ?_ _)); refine blk_put (cs := #[.int .i64 t792, .int .i64 0]) ?_ 1 _ rfl; (with_reducible repeat (first | refine blk_drewN ?_ _ | refine blk_drew ?_ | refine blk_alloc ?_ _)); refine blk_put (cs := #[.int .i64 0, .int .i64 0]) ?_ 0 _ rfl; (with_reducible repeat (first | refine blk_drewN ?_ _ | refine blk_drew ?_ | refine blk_alloc ?_ _)); exact BK795.out) hb); have n6_ := Aside0.mk (below_step (by repeat (first | (with_reducible first | exact HB.out | apply below_alloc | apply pw_below_drewN | apply below_drew1 | refine below_set ?_ GE779.out | refine below_set ?_ GE787.out | refine below_set ?_ GE791.out | refine below_set ?_ GE795.out) | exact HB.out)) hb); clear HO783; clear HO790; clear BK779; clear BK787; clear BK791; clear BK795; clear HB; have HO783 := n0_; have HO790 := n1_; have BK779 := n2_; have BK787 := n3_; have BK791 := n4_; have BK795 := n5_; have HB := n6_; clear n0_ n1_ n2_ n3_ n4_ n5_ n6_; (try clear hb); (try clear hb2); (try clear hk); (try clear hi)))
    go_meet
    case rel => exact ⟨_, ((t794 != t786)), (by first | rfl | (simp; done) | (simp [*]; done)), H', ⟨by first | omega | exact Nat.le_refl _⟩, ⟨by (with_reducible repeat (first | apply Kd.R_alloc | apply Kd.R_drewN | apply Kd.R_drew)); exact Kd.R_mono HO790.out (fun _ hk => trivial)⟩, ⟨by (with_reducible repeat (first | refine blk_drewN ?_ _ | refine blk_drew ?_ | refine blk_alloc ?_ _)); exact BK779.out⟩, ⟨by (with_reducible repeat (first | refine blk_drewN ?_ _ | refine blk_drew ?_ | refine blk_alloc ?_ _)); exact BK787.out⟩, ⟨by (with_reducible repeat (first | refine blk_drewN ?_ _ | refine blk_drew ?_ | refine blk_alloc ?_ _)); exact BK791.out⟩, ⟨by (with_reducible repeat (first | refine blk_drewN ?_ _ | refine blk_drew ?_ | refine blk_alloc ?_ _)); exact BK795.out⟩, ⟨by repeat (first | (with_reducible first | exact HB.out | apply below_alloc | apply pw_below_drewN | apply below_drew1 | refine below_set ?_ GE779.out | refine below_set ?_ GE787.out | refine below_set ?_ GE791.out | refine below_set ?_ GE795.out) | exact HB.out)⟩⟩
   ·
    replace c38 := Bool.eq_false_iff.mpr c38
    subst c38
    have H1 : (laws_FnExactChanceBegins.j0 k true l0_0 t788) = some r := by rw [if_neg (show ¬ (false = true) by decide)] at H; exact H
    clear H
    have H := H1
    clear H1
    have H' := Aside0.mk H
    clear H
    have hnb47 := NB795_779.out
    have hnc47 := NB779_795.out
    have hnb48 := NB795_787.out
    have hnc48 := NB787_795.out
    have hnb49 := NB795_791.out
    have hnc49 := NB791_795.out
    have hcz50_0 : w32.cell? ⟨gb795, 0, none⟩ = some (.int .i64 0) := (blk_cell BK795.out 0).trans rfl
    have hcz50_1 : w32.cell? ⟨gb795, 1, none⟩ = some (.int .i64 0) := (blk_cell BK795.out 1).trans rfl
    have hfz50_0 := blk_frozen BK795.out 0
    have hfz50_1 := blk_frozen BK795.out 1
    have hnb51 := NB787_779.out
    have hnc51 := NB779_787.out
    have hnb52 := NB787_791.out
    have hnc52 := NB791_787.out
    have hcz53_0 : w32.cell? ⟨gb787, 0, none⟩ = some (.int .i64 t784) := (blk_cell BK787.out 0).trans rfl
    have hcz53_1 : w32.cell? ⟨gb787, 1, none⟩ = some (.int .i64 t785) := (blk_cell BK787.out 1).trans rfl
    have hfz53_0 := blk_frozen BK787.out 0
    have hfz53_1 := blk_frozen BK787.out 1
    go_wp2_with (first | ((with_reducible refine gate_callee (f := 17) rfl ?_); refine goesL_ (some 37) rfl rfl Try.func17 (by kernel_rfl) rfl #[.agg #[.int .i64 t792, .int .i64 t793], .agg #[.int .i64 t784, .int .i64 t785]] rfl (by (try simp only [List.map_toArray, List.map_cons, List.map_nil]); first | done | rfl | (simp only [List.length_drop, List.length_take]; rfl)) ?_; (with_reducible refine (laws_eqIntA2.calls t792 t793 t784 t785 false _ A37.out).mono ?_); rintro e w54 ⟨rfl, hb⟩; refine ⟨_, rfl, ?_⟩; have n0_ := Aside0.mk (Kd.R_below (by (with_reducible repeat (first | apply Kd.R_alloc | apply Kd.R_drewN | apply Kd.R_drew)); exact (Kd.R_mono (Kd.R_far (p := ⟨gb795, 1, none⟩) (Kd.R_far (p := ⟨gb795, 0, none⟩) (Kd.R_types HO783.out BK795.out (by decide)) (fun _ hk => hk.2) (.int .i64 t792)) (fun _ hk => hk.2) (.int .i64 t793)) (fun _ h_ => h_.1))) hb); have n1_ := Aside0.mk (Kd.R_below (by (with_reducible repeat (first | apply Kd.R_alloc | apply Kd.R_drewN | apply Kd.R_drew)); exact (Kd.R_mono (Kd.R_far (p := ⟨gb795, 1, none⟩) (Kd.R_far (p := ⟨gb795, 0, none⟩) (Kd.R_types HO790.out BK795.out (by decide)) (fun _ hk => hk.2) (.int .i64 t792)) (fun _ hk => hk.2) (.int .i64 t793)) (fun _ h_ => h_.1))) hb); have n2_ := Aside0.mk (blk_below (g := gb779) (o := .cells #[.slice A0_0 l0_0.length c0_0] 24 (0, 0)) (by (with_reducible repeat (first | refine blk_drewN ?_ _ | refine blk_drew ?_ | refine blk_alloc ?_ _)); refine blk_far ?_ NB779_795.out _; (with_reducible repeat (first | refine blk_drewN ?_ _ | refine blk_drew ?_ | refine blk_alloc ?_ _)); refine blk_far ?_ NB779_795.out _; (with_reducible repeat (first | refine blk_drewN ?_ _ | refine blk_drew ?_ | refine blk_alloc ?_ _)); exact BK779.out) hb); have n3_ := Aside0.mk (blk_below (g := gb787) (o := .cells #[.int .i64 t784, .int .i64 t785] 26 (0, 0)) (by (with_reducible repeat (first | refine blk_drewN ?_ _ | refine blk_drew ?_ | refine blk_alloc ?_ _)); refine blk_far ?_ NB787_795.out _; (with_reducible repeat (first | refine blk_drewN ?_ _ | refine blk_drew ?_ | refine blk_alloc ?_ _)); refine blk_far ?_ NB787_795.out _; (with_reducible repeat (first | refine blk_drewN ?_ _ | refine blk_drew ?_ | refine blk_alloc ?_ _)); exact BK787.out) hb); have n4_ := Aside0.mk (blk_below (g := gb791) (o := .cells #[.slice Ao27 t788.length co27] 31 (0, 0)) (by (with_reducible repeat (first | refine blk_drewN ?_ _ | refine blk_drew ?_ | refine blk_alloc ?_ _)); refine blk_far ?_ NB791_795.out _; (with_reducible repeat (first | refine blk_drewN ?_ _ | refine blk_drew ?_ | refine blk_alloc ?_ _)); refine blk_far ?_ NB791_795.out _; (with_reducible repeat (first | refine blk_drewN ?_ _ | refine blk_drew ?_ | refine blk_alloc ?_ _)); exact BK791.out) hb); have n5_ := Aside0.mk (blk_below (g := gb795) (o := .cells #[.int .i64 t792, .int .i64 t793] 26 (0, 0)) (by (with_reducible repeat (first | refine blk_drewN ?_ _ | refine blk_drew ?_ | refine blk_alloc ?_ _)); refine blk_put (cs := #[.int .i64 t792, .int .i64 0]) ?_ 1 _ rfl; (with_reducible repeat (first | refine blk_drewN ?_ _ | refine blk_drew ?_ | refine blk_alloc ?_ _)); refine blk_put (cs := #[.int .i64 0, .int .i64 0]) ?_ 0 _ rfl; (with_reducible repeat (first | refine blk_drewN ?_ _ | refine blk_drew ?_ | refine blk_alloc ?_ _)); exact BK795.out) hb); have n6_ := Aside0.mk (below_step (by repeat (first | (with_reducible first | exact HB.out | apply below_alloc | apply pw_below_drewN | apply below_drew1 | refine below_set ?_ GE779.out | refine below_set ?_ GE787.out | refine below_set ?_ GE791.out | refine below_set ?_ GE795.out) | exact HB.out)) hb); clear HO783; clear HO790; clear BK779; clear BK787; clear BK791; clear BK795; clear HB; have HO783 := n0_; have HO790 := n1_; have BK779 := n2_; have BK787 := n3_; have BK791 := n4_; have BK795 := n5_; have HB := n6_; clear n0_ n1_ n2_ n3_ n4_ n5_ n6_; (try clear hb); (try clear hb2); (try clear hk); (try clear hi)))
    go_meet
    case rel => exact ⟨_, (true), (by first | rfl | (simp; done) | (simp [*]; done)), H', ⟨by first | omega | exact Nat.le_refl _⟩, ⟨by (with_reducible repeat (first | apply Kd.R_alloc | apply Kd.R_drewN | apply Kd.R_drew)); exact Kd.R_mono HO790.out (fun _ hk => trivial)⟩, ⟨by (with_reducible repeat (first | refine blk_drewN ?_ _ | refine blk_drew ?_ | refine blk_alloc ?_ _)); exact BK779.out⟩, ⟨by (with_reducible repeat (first | refine blk_drewN ?_ _ | refine blk_drew ?_ | refine blk_alloc ?_ _)); exact BK787.out⟩, ⟨by (with_reducible repeat (first | refine blk_drewN ?_ _ | refine blk_drew ?_ | refine blk_alloc ?_ _)); exact BK791.out⟩, ⟨by (with_reducible repeat (first | refine blk_drewN ?_ _ | refine blk_drew ?_ | refine blk_alloc ?_ _)); exact BK795.out⟩, ⟨by repeat (first | (with_reducible first | exact HB.out | apply below_alloc | apply pw_below_drewN | apply below_drew1 | refine below_set ?_ GE779.out | refine below_set ?_ GE787.out | refine below_set ?_ GE791.out | refine below_set ?_ GE795.out) | exact HB.out)⟩⟩
  case rest =>
   clear HC13
   try clear c1
   try clear c2
   try clear p2
   try clear c3
   try clear c4
   try clear c5
   try clear c5b0
   try clear c10
   try clear c13
   try clear c15
   try clear c17
   try clear c22
   try clear c28
   try clear c29
   try clear c31
   try clear c32
   try clear c33
   try clear c34
   try clear c35
   try clear c38
   try clear c39
   try clear c40
   try clear c41
   try clear c43
   try clear c44
   try clear c47
   try clear c48
   try clear c49
   try clear c51
   try clear c52
   try clear hcz15_0
   try clear hcz17_0
   try clear hcz23_0
   try clear hcz23_1
   try clear hcz24_0
   try clear hcz30_0
   try clear hcz36_0
   try clear hcz36_1
   try clear hcz42_0
   try clear hcz42_1
   try clear hcz45_0
   try clear hcz45_1
   try clear hcz50_0
   try clear hcz50_1
   try clear hcz53_0
   try clear hcz53_1
   try clear hcz7_0
   try clear hfz15_0
   try clear hfz17_0
   try clear hfz23_0
   try clear hfz23_1
   try clear hfz24_0
   try clear hfz30_0
   try clear hfz36_0
   try clear hfz36_1
   try clear hfz42_0
   try clear hfz42_1
   try clear hfz45_0
   try clear hfz45_1
   try clear hfz50_0
   try clear hfz50_1
   try clear hfz53_0
   try clear hfz53_1
   try clear hfz7_0
   obtain ⟨kq, x43_12, rfl, HA, HJ12, HO_792000, BK779, BK787, BK791, BK795, HB⟩ := hcut
   cases kq with
   | zero => exact absurd HA.out (by simp [laws_FnExactChanceBegins.j0])
   | succ kj12 =>
    have H := HA.out
    clear HA
    simp only [laws_FnExactChanceBegins.j0] at H
    by_cases c55 : x43_12 = true
    ·
     subst c55
     have H1 : (some false) = some r := by rw [if_pos rfl] at H; exact H
     clear H
     have H := H1
     clear H1
     obtain rfl := Option.some.inj H
     go_wp2
     go_ret
     exact ⟨by first | rfl | (simp [errW_none, errW_some] <;> rfl) | (simp [*, errW_none, errW_some] <;> rfl), by repeat (first | (with_reducible first | exact HB.out | apply below_alloc | apply pw_below_drewN | apply below_drew1 | refine below_set ?_ GE779.out | refine below_set ?_ GE787.out | refine below_set ?_ GE791.out | refine below_set ?_ GE795.out) | exact HB.out)⟩
    ·
     replace c55 := Bool.eq_false_iff.mpr c55
     subst c55
     have H1 : ((laws_toTrie.f kj12 l0_0).bind fun t797 => ((laws_eqTrie.f kj12 t788 t797).bind fun t800 => (if t800 = true then (some true) else (some false)))) = some r := by rw [if_neg (show ¬ (false = true) by decide)] at H; exact H
     clear H
     have H := H1
     clear H1
     replace H := Option.bind_eq_some_iff.mp H
     obtain ⟨t797, A560, H⟩ := H
     replace H : ((laws_eqTrie.f kj12 t788 t797).bind fun t800 => (if t800 = true then (some true) else (some false))) = some r := H
     have A56 := Aside0.mk A560
     clear A560
     replace H := Option.bind_eq_some_iff.mp H
     obtain ⟨t800, A570, H⟩ := H
     replace H : (if t800 = true then (some true) else (some false)) = some r := H
     have A57 := Aside0.mk A570
     clear A570
     by_cases c58 : t800 = true
     ·
      subst c58
      have H1 : (some true) = some r := by rw [if_pos rfl] at H; exact H
      clear H
      have H := H1
      clear H1
      obtain rfl := Option.some.inj H
      try go_wp2
      have n0_ := Aside0.mk (Kd.R_drew HO_792000.out)
      have n1_ := Aside0.mk (blk_drew BK779.out)
      have n2_ := Aside0.mk (blk_drew BK787.out)
      have n3_ := Aside0.mk (blk_drew BK791.out)
      have n4_ := Aside0.mk (blk_drew BK795.out)
      have n5_ := Aside0.mk (below_drew1 HB.out)
      clear HO_792000
      clear BK779
      clear BK787
      clear BK791
      clear BK795
      clear HB
      have HO_792000 := n0_
      have BK779 := n1_
      have BK787 := n2_
      have BK791 := n3_
      have BK795 := n4_
      have HB := n5_
      clear n0_ n1_ n2_ n3_ n4_ n5_
      refine start_ (n := 5) (S := fun w' => w'.cell? ⟨gb791, 0, none⟩ = some (.slice Ao27 t788.length co27) ∧ w'.cell? ⟨gb779, 0, none⟩ = some (.slice A0_0 l0_0.length c0_0)) (ds := []) #[false, false, false, false, false] (by kernel_rfl) rfl rfl ⟨(blk_cell BK791.out 0).trans rfl, (blk_cell BK779.out 0).trans rfl⟩ (fun hHeld => ?_)
      generalize wc.drew = w59 at HO_792000 BK779 BK787 BK791 BK795 HB hHeld ⊢
      refine take_ (i := 0) (N := some 44) (v := ?_) (a' := ?_) #[true, false, false, false, false] rfl rfl (by kernel_rfl) (fun _ _ _ h => h) (Or.inl ⟨by rfl, ?_⟩) hHeld ?_ ?_
      rotate_left
      ·
       rintro w' ⟨s0, s1⟩
       go_simp
       with_reducible rfl
      rotate_left
      ·
       simp only [Act.put, List.setIfInBounds_toArray, List.set_cons_zero, List.set_cons_succ, i64_w, i32_w]
       rfl
      refine take_ (i := 1) (N := some 45) (v := ?_) (a' := ?_) #[true, true, false, false, false] rfl rfl (by kernel_rfl) (fun _ _ _ h => h) (Or.inl ⟨by rfl, ?_⟩) hHeld ?_ ?_
      rotate_left
      ·
       rintro w' ⟨s0, s1⟩
       go_simp
       with_reducible rfl
      rotate_left
      ·
       simp only [Act.put, List.setIfInBounds_toArray, List.set_cons_zero, List.set_cons_succ, i64_w, i32_w]
       rfl
      refine one_ (i := 2) (N := some 46) #[true, true, true, false, false] rfl rfl (by kernel_rfl) (by decide) (fun K hK => ?_)
      refine goes_ Try.func15 (by kernel_rfl) rfl #[.agg #[.slice A0_0 l0_0.length c0_0]] (by rfl) rfl rfl (by (try simp only [List.map_toArray, List.map_cons, List.map_nil]); first | done | rfl | (simp only [List.length_drop, List.length_take]; rfl)) ?_
      with_reducible refine (laws_toTrie.calls kj12 _ _ l0_0 t797 _ ?side1 ?side2 A56.out).mono ?_
      (case side1 => repeat (first | exact (Kd.C_below HR0_0.out HB.out) | (with_reducible refine Kd.C_alloc ?_ _) | (with_reducible refine Kd.C_drewN ?_ _) | (with_reducible refine Kd.C_drew ?_)))
      (case side2 => exact HC0_0.out)
      rintro e w60 ⟨v798, rfl, ho0, hb⟩
      refine ⟨_, rfl, ?_⟩
      have n0_ := Aside0.mk (Kd.R_elder' (by (with_reducible repeat (first | apply Kd.R_alloc | apply Kd.R_drewN | apply Kd.R_drew)); exact HO_792000.out) (Kd.R_base ho0) hb)
      have n1_ := Aside0.mk (Kd.R_lower (Kd.R_new' ho0 (Kd.R_lt (by (with_reducible repeat (first | apply Kd.R_alloc | apply Kd.R_drewN | apply Kd.R_drew)); exact HO_792000.out))) (below_size (by repeat (first | (with_reducible first | exact HB.out | apply below_alloc | apply pw_below_drewN | apply below_drew1 | refine below_set ?_ GE779.out | refine below_set ?_ GE787.out | refine below_set ?_ GE791.out | refine below_set ?_ GE795.out) | exact HB.out))))
      have n2_ := Aside0.mk (blk_below (g := gb779) (o := .cells #[.slice A0_0 l0_0.length c0_0] 24 (0, 0)) (by (with_reducible repeat (first | refine blk_drewN ?_ _ | refine blk_drew ?_ | refine blk_alloc ?_ _)); exact BK779.out) hb)
      have n3_ := Aside0.mk (blk_below (g := gb787) (o := .cells #[.int .i64 t784, .int .i64 t785] 26 (0, 0)) (by (with_reducible repeat (first | refine blk_drewN ?_ _ | refine blk_drew ?_ | refine blk_alloc ?_ _)); exact BK787.out) hb)
      have n4_ := Aside0.mk (blk_below (g := gb791) (o := .cells #[.slice Ao27 t788.length co27] 31 (0, 0)) (by (with_reducible repeat (first | refine blk_drewN ?_ _ | refine blk_drew ?_ | refine blk_alloc ?_ _)); exact BK791.out) hb)
      have n5_ := Aside0.mk (blk_below (g := gb795) (o := .cells #[.int .i64 t792, .int .i64 t793] 26 (0, 0)) (by (with_reducible repeat (first | refine blk_drewN ?_ _ | refine blk_drew ?_ | refine blk_alloc ?_ _)); exact BK795.out) hb)
      have n6_ := Aside0.mk (below_step (by repeat (first | (with_reducible first | exact HB.out | apply below_alloc | apply pw_below_drewN | apply below_drew1 | refine below_set ?_ GE779.out | refine below_set ?_ GE787.out | refine below_set ?_ GE791.out | refine below_set ?_ GE795.out) | exact HB.out)) hb)
      clear HO_792000
      clear BK779
      clear BK787
      clear BK791
      clear BK795
      clear HB
      have HO_792000 := n0_
      have HO799 := n1_
      have BK779 := n2_
      have BK787 := n3_
      have BK791 := n4_
      have BK795 := n5_
      have HB := n6_
      clear n0_ n1_ n2_ n3_ n4_ n5_ n6_
      (try clear hb)
      (try clear hb2)
      (try clear hk)
      (try clear hi)
      (try clear ho0)
      obtain ⟨Ao61, co61, eo61⟩ := Kd.R_slice HO799.out
      (first | subst eo61 | (injection eo61 with f1_ f2_ f3_; have f4_ := f1_.symm; have f5_ := f3_.symm; clear f1_ f2_ f3_; subst f4_; subst f5_))
      refine hK.out _ _ ⟨(blk_cell BK791.out 0).trans rfl, (blk_cell BK779.out 0).trans rfl⟩ (fun hHeld => ?_)
      clear hK K
      refine norm_ (a' := ?_) ?_ ?_
      rotate_left
      ·
       show Act.put _ (some 46) _ = _
       simp only [Act.put, List.setIfInBounds_toArray, List.set_cons_zero, List.set_cons_succ, i64_w, i32_w]
       rfl
      refine one_ (i := 3) (N := some 47) #[true, true, true, true, false] rfl rfl (by kernel_rfl) (by decide) (fun K hK => ?_)
      refine goes_ Try.func18 (by kernel_rfl) rfl #[.agg #[.slice Ao27 t788.length co27], .agg #[.slice Ao61 t797.length co61]] (by rfl) rfl rfl (by (try simp only [List.map_toArray, List.map_cons, List.map_nil]); first | done | rfl | (simp only [List.length_drop, List.length_take]; rfl)) ?_
      with_reducible refine (laws_eqTrie.calls kj12 _ _ t788 _ _ t797 true _ ?side1 ?side2 ?side3 ?side4 A57.out).mono ?_
      (case side1 => repeat (first | exact (Kd.R_reads' HO_792000.out).2.2 | (with_reducible refine Kd.C_alloc ?_ _) | (with_reducible refine Kd.C_drewN ?_ _) | (with_reducible refine Kd.C_drew ?_)))
      (case side2 => exact (Kd.R_reads' HO_792000.out).2.1)
      (case side3 => repeat (first | exact (Kd.R_reads' HO799.out).2.2 | (with_reducible refine Kd.C_alloc ?_ _) | (with_reducible refine Kd.C_drewN ?_ _) | (with_reducible refine Kd.C_drew ?_)))
      (case side4 => exact (Kd.R_reads' HO799.out).2.1)
      rintro e w62 ⟨rfl, hb⟩
      refine ⟨_, rfl, ?_⟩
      have n0_ := Aside0.mk (Kd.R_below (by (with_reducible repeat (first | apply Kd.R_alloc | apply Kd.R_drewN | apply Kd.R_drew)); exact HO_792000.out) hb)
      have n1_ := Aside0.mk (Kd.R_below (by (with_reducible repeat (first | apply Kd.R_alloc | apply Kd.R_drewN | apply Kd.R_drew)); exact HO799.out) hb)
      have n2_ := Aside0.mk (blk_below (g := gb779) (o := .cells #[.slice A0_0 l0_0.length c0_0] 24 (0, 0)) (by (with_reducible repeat (first | refine blk_drewN ?_ _ | refine blk_drew ?_ | refine blk_alloc ?_ _)); exact BK779.out) hb)
      have n3_ := Aside0.mk (blk_below (g := gb787) (o := .cells #[.int .i64 t784, .int .i64 t785] 26 (0, 0)) (by (with_reducible repeat (first | refine blk_drewN ?_ _ | refine blk_drew ?_ | refine blk_alloc ?_ _)); exact BK787.out) hb)
      have n4_ := Aside0.mk (blk_below (g := gb791) (o := .cells #[.slice Ao27 t788.length co27] 31 (0, 0)) (by (with_reducible repeat (first | refine blk_drewN ?_ _ | refine blk_drew ?_ | refine blk_alloc ?_ _)); exact BK791.out) hb)
      have n5_ := Aside0.mk (blk_below (g := gb795) (o := .cells #[.int .i64 t792, .int .i64 t793] 26 (0, 0)) (by (with_reducible repeat (first | refine blk_drewN ?_ _ | refine blk_drew ?_ | refine blk_alloc ?_ _)); exact BK795.out) hb)
      have n6_ := Aside0.mk (below_step (by repeat (first | (with_reducible first | exact HB.out | apply below_alloc | apply pw_below_drewN | apply below_drew1 | refine below_set ?_ GE779.out | refine below_set ?_ GE787.out | refine below_set ?_ GE791.out | refine below_set ?_ GE795.out) | exact HB.out)) hb)
      clear HO_792000
      clear HO799
      clear BK779
      clear BK787
      clear BK791
      clear BK795
      clear HB
      have HO_792000 := n0_
      have HO799 := n1_
      have BK779 := n2_
      have BK787 := n3_
      have BK791 := n4_
      have BK795 := n5_
      have HB := n6_
      clear n0_ n1_ n2_ n3_ n4_ n5_ n6_
      (try clear hb)
      (try clear hb2)
      (try clear hk)
      (try clear hi)
      refine hK.out _ _ ⟨(blk_cell BK791.out 0).trans rfl, (blk_cell BK779.out 0).trans rfl⟩ (fun hHeld => ?_)
      clear hK K
      refine norm_ (a' := ?_) ?_ ?_
      rotate_left
      ·
       show Act.put _ (some 47) _ = _
       simp only [Act.put, List.setIfInBounds_toArray, List.set_cons_zero, List.set_cons_succ, i64_w, i32_w]
       rfl
      refine pure_ (i := 4) (N := some 48) (v := ?_) (a' := ?_) #[true, true, true, true, true] rfl rfl (by kernel_rfl) (fun _ _ _ h => h) (Or.inl ⟨by rfl, ?_⟩) ?_ ?_
      rotate_left
      ·
       intro w'
       go_simp
       with_reducible rfl
      rotate_left
      ·
       simp only [Act.put, List.setIfInBounds_toArray, List.set_cons_zero, List.set_cons_succ, i64_w, i32_w]
       rfl
      refine done_ (by kernel_rfl) ?_
      try go_wp2
      go_ret
      exact ⟨by first | rfl | (simp [errW_none, errW_some] <;> rfl) | (simp [*, errW_none, errW_some] <;> rfl), by repeat (first | (with_reducible first | exact HB.out | apply below_alloc | apply pw_below_drewN | apply below_drew1 | refine below_set ?_ GE779.out | refine below_set ?_ GE787.out | refine below_set ?_ GE791.out | refine below_set ?_ GE795.out) | exact HB.out)⟩
     ·
      replace c58 := Bool.eq_false_iff.mpr c58
      subst c58
      have H1 : (some false) = some r := by rw [if_neg (show ¬ (false = true) by decide)] at H; exact H
      clear H
      have H := H1
      clear H1
      obtain rfl := Option.some.inj H
      try go_wp2
      have n0_ := Aside0.mk (Kd.R_drew HO_792000.out)
      have n1_ := Aside0.mk (blk_drew BK779.out)
      have n2_ := Aside0.mk (blk_drew BK787.out)
      have n3_ := Aside0.mk (blk_drew BK791.out)
      have n4_ := Aside0.mk (blk_drew BK795.out)
      have n5_ := Aside0.mk (below_drew1 HB.out)
      clear HO_792000
      clear BK779
      clear BK787
      clear BK791
      clear BK795
      clear HB
      have HO_792000 := n0_
      have BK779 := n1_
      have BK787 := n2_
      have BK791 := n3_
      have BK795 := n4_
      have HB := n5_
      clear n0_ n1_ n2_ n3_ n4_ n5_
      refine start_ (n := 5) (S := fun w' => w'.cell? ⟨gb791, 0, none⟩ = some (.slice Ao27 t788.length co27) ∧ w'.cell? ⟨gb779, 0, none⟩ = some (.slice A0_0 l0_0.length c0_0)) (ds := []) #[false, false, false, false, false] (by kernel_rfl) rfl rfl ⟨(blk_cell BK791.out 0).trans rfl, (blk_cell BK779.out 0).trans rfl⟩ (fun hHeld => ?_)
      generalize wc.drew = w63 at HO_792000 BK779 BK787 BK791 BK795 HB hHeld ⊢
      refine take_ (i := 0) (N := some 44) (v := ?_) (a' := ?_) #[true, false, false, false, false] rfl rfl (by kernel_rfl) (fun _ _ _ h => h) (Or.inl ⟨by rfl, ?_⟩) hHeld ?_ ?_
      rotate_left
      ·
       rintro w' ⟨s0, s1⟩
       go_simp
       with_reducible rfl
      rotate_left
      ·
       simp only [Act.put, List.setIfInBounds_toArray, List.set_cons_zero, List.set_cons_succ, i64_w, i32_w]
       rfl
      refine take_ (i := 1) (N := some 45) (v := ?_) (a' := ?_) #[true, true, false, false, false] rfl rfl (by kernel_rfl) (fun _ _ _ h => h) (Or.inl ⟨by rfl, ?_⟩) hHeld ?_ ?_
      rotate_left
      ·
       rintro w' ⟨s0, s1⟩
       go_simp
       with_reducible rfl
      rotate_left
      ·
       simp only [Act.put, List.setIfInBounds_toArray, List.set_cons_zero, List.set_cons_succ, i64_w, i32_w]
       rfl
      refine one_ (i := 2) (N := some 46) #[true, true, true, false, false] rfl rfl (by kernel_rfl) (by decide) (fun K hK => ?_)
      refine goes_ Try.func15 (by kernel_rfl) rfl #[.agg #[.slice A0_0 l0_0.length c0_0]] (by rfl) rfl rfl (by (try simp only [List.map_toArray, List.map_cons, List.map_nil]); first | done | rfl | (simp only [List.length_drop, List.length_take]; rfl)) ?_
      with_reducible refine (laws_toTrie.calls kj12 _ _ l0_0 t797 _ ?side1 ?side2 A56.out).mono ?_
      (case side1 => repeat (first | exact (Kd.C_below HR0_0.out HB.out) | (with_reducible refine Kd.C_alloc ?_ _) | (with_reducible refine Kd.C_drewN ?_ _) | (with_reducible refine Kd.C_drew ?_)))
      (case side2 => exact HC0_0.out)
      rintro e w64 ⟨v798, rfl, ho0, hb⟩
      refine ⟨_, rfl, ?_⟩
      have n0_ := Aside0.mk (Kd.R_elder' (by (with_reducible repeat (first | apply Kd.R_alloc | apply Kd.R_drewN | apply Kd.R_drew)); exact HO_792000.out) (Kd.R_base ho0) hb)
      have n1_ := Aside0.mk (Kd.R_lower (Kd.R_new' ho0 (Kd.R_lt (by (with_reducible repeat (first | apply Kd.R_alloc | apply Kd.R_drewN | apply Kd.R_drew)); exact HO_792000.out))) (below_size (by repeat (first | (with_reducible first | exact HB.out | apply below_alloc | apply pw_below_drewN | apply below_drew1 | refine below_set ?_ GE779.out | refine below_set ?_ GE787.out | refine below_set ?_ GE791.out | refine below_set ?_ GE795.out) | exact HB.out))))
      have n2_ := Aside0.mk (blk_below (g := gb779) (o := .cells #[.slice A0_0 l0_0.length c0_0] 24 (0, 0)) (by (with_reducible repeat (first | refine blk_drewN ?_ _ | refine blk_drew ?_ | refine blk_alloc ?_ _)); exact BK779.out) hb)
      have n3_ := Aside0.mk (blk_below (g := gb787) (o := .cells #[.int .i64 t784, .int .i64 t785] 26 (0, 0)) (by (with_reducible repeat (first | refine blk_drewN ?_ _ | refine blk_drew ?_ | refine blk_alloc ?_ _)); exact BK787.out) hb)
      have n4_ := Aside0.mk (blk_below (g := gb791) (o := .cells #[.slice Ao27 t788.length co27] 31 (0, 0)) (by (with_reducible repeat (first | refine blk_drewN ?_ _ | refine blk_drew ?_ | refine blk_alloc ?_ _)); exact BK791.out) hb)
      have n5_ := Aside0.mk (blk_below (g := gb795) (o := .cells #[.int .i64 t792, .int .i64 t793] 26 (0, 0)) (by (with_reducible repeat (first | refine blk_drewN ?_ _ | refine blk_drew ?_ | refine blk_alloc ?_ _)); exact BK795.out) hb)
      have n6_ := Aside0.mk (below_step (by repeat (first | (with_reducible first | exact HB.out | apply below_alloc | apply pw_below_drewN | apply below_drew1 | refine below_set ?_ GE779.out | refine below_set ?_ GE787.out | refine below_set ?_ GE791.out | refine below_set ?_ GE795.out) | exact HB.out)) hb)
      clear HO_792000
      clear BK779
      clear BK787
      clear BK791
      clear BK795
      clear HB
      have HO_792000 := n0_
      have HO799 := n1_
      have BK779 := n2_
      have BK787 := n3_
      have BK791 := n4_
      have BK795 := n5_
      have HB := n6_
      clear n0_ n1_ n2_ n3_ n4_ n5_ n6_
      (try clear hb)
      (try clear hb2)
      (try clear hk)
      (try clear hi)
      (try clear ho0)
      obtain ⟨Ao65, co65, eo65⟩ := Kd.R_slice HO799.out
      (first | subst eo65 | (injection eo65 with f1_ f2_ f3_; have f4_ := f1_.symm; have f5_ := f3_.symm; clear f1_ f2_ f3_; subst f4_; subst f5_))
      refine hK.out _ _ ⟨(blk_cell BK791.out 0).trans rfl, (blk_cell BK779.out 0).trans rfl⟩ (fun hHeld => ?_)
      clear hK K
      refine norm_ (a' := ?_) ?_ ?_
      rotate_left
      ·
       show Act.put _ (some 46) _ = _
       simp only [Act.put, List.setIfInBounds_toArray, List.set_cons_zero, List.set_cons_succ, i64_w, i32_w]
       rfl
      refine one_ (i := 3) (N := some 47) #[true, true, true, true, false] rfl rfl (by kernel_rfl) (by decide) (fun K hK => ?_)
      refine goes_ Try.func18 (by kernel_rfl) rfl #[.agg #[.slice Ao27 t788.length co27], .agg #[.slice Ao65 t797.length co65]] (by rfl) rfl rfl (by (try simp only [List.map_toArray, List.map_cons, List.map_nil]); first | done | rfl | (simp only [List.length_drop, List.length_take]; rfl)) ?_
      with_reducible refine (laws_eqTrie.calls kj12 _ _ t788 _ _ t797 false _ ?side1 ?side2 ?side3 ?side4 A57.out).mono ?_
      (case side1 => repeat (first | exact (Kd.R_reads' HO_792000.out).2.2 | (with_reducible refine Kd.C_alloc ?_ _) | (with_reducible refine Kd.C_drewN ?_ _) | (with_reducible refine Kd.C_drew ?_)))
      (case side2 => exact (Kd.R_reads' HO_792000.out).2.1)
      (case side3 => repeat (first | exact (Kd.R_reads' HO799.out).2.2 | (with_reducible refine Kd.C_alloc ?_ _) | (with_reducible refine Kd.C_drewN ?_ _) | (with_reducible refine Kd.C_drew ?_)))
      (case side4 => exact (Kd.R_reads' HO799.out).2.1)
      rintro e w66 ⟨rfl, hb⟩
      refine ⟨_, rfl, ?_⟩
      have n0_ := Aside0.mk (Kd.R_below (by (with_reducible repeat (first | apply Kd.R_alloc | apply Kd.R_drewN | apply Kd.R_drew)); exact HO_792000.out) hb)
      have n1_ := Aside0.mk (Kd.R_below (by (with_reducible repeat (first | apply Kd.R_alloc | apply Kd.R_drewN | apply Kd.R_drew)); exact HO799.out) hb)
      have n2_ := Aside0.mk (blk_below (g := gb779) (o := .cells #[.slice A0_0 l0_0.length c0_0] 24 (0, 0)) (by (with_reducible repeat (first | refine blk_drewN ?_ _ | refine blk_drew ?_ | refine blk_alloc ?_ _)); exact BK779.out) hb)
      have n3_ := Aside0.mk (blk_below (g := gb787) (o := .cells #[.int .i64 t784, .int .i64 t785] 26 (0, 0)) (by (with_reducible repeat (first | refine blk_drewN ?_ _ | refine blk_drew ?_ | refine blk_alloc ?_ _)); exact BK787.out) hb)
      have n4_ := Aside0.mk (blk_below (g := gb791) (o := .cells #[.slice Ao27 t788.length co27] 31 (0, 0)) (by (with_reducible repeat (first | refine blk_drewN ?_ _ | refine blk_drew ?_ | refine blk_alloc ?_ _)); exact BK791.out) hb)
      have n5_ := Aside0.mk (blk_below (g := gb795) (o := .cells #[.int .i64 t792, .int .i64 t793] 26 (0, 0)) (by (with_reducible repeat (first | refine blk_drewN ?_ _ | refine blk_drew ?_ | refine blk_alloc ?_ _)); exact BK795.out) hb)
      have n6_ := Aside0.mk (below_step (by repeat (first | (with_reducible first | exact HB.out | apply below_alloc | apply pw_below_drewN | apply below_drew1 | refine below_set ?_ GE779.out | refine below_set ?_ GE787.out | refine below_set ?_ GE791.out | refine below_set ?_ GE795.out) | exact HB.out)) hb)
      clear HO_792000
      clear HO799
      clear BK779
      clear BK787
      clear BK791
      clear BK795
      clear HB
      have HO_792000 := n0_
      have HO799 := n1_
      have BK779 := n2_
      have BK787 := n3_
      have BK791 := n4_
      have BK795 := n5_
      have HB := n6_
      clear n0_ n1_ n2_ n3_ n4_ n5_ n6_
      (try clear hb)
      (try clear hb2)
      (try clear hk)
      (try clear hi)
      refine hK.out _ _ ⟨(blk_cell BK791.out 0).trans rfl, (blk_cell BK779.out 0).trans rfl⟩ (fun hHeld => ?_)
      clear hK K
      refine norm_ (a' := ?_) ?_ ?_
      rotate_left
      ·
       show Act.put _ (some 47) _ = _
       simp only [Act.put, List.setIfInBounds_toArray, List.set_cons_zero, List.set_cons_succ, i64_w, i32_w]
       rfl
      refine pure_ (i := 4) (N := some 48) (v := ?_) (a' := ?_) #[true, true, true, true, true] rfl rfl (by kernel_rfl) (fun _ _ _ h => h) (Or.inl ⟨by rfl, ?_⟩) ?_ ?_
      rotate_left
      ·
       intro w'
       go_simp
       with_reducible rfl
      rotate_left
      ·
       simp only [Act.put, List.setIfInBounds_toArray, List.set_cons_zero, List.set_cons_succ, i64_w, i32_w]
       rfl
      refine done_ (by kernel_rfl) ?_
      try go_wp2
      go_ret
      exact ⟨by first | rfl | (simp [errW_none, errW_some] <;> rfl) | (simp [*, errW_none, errW_some] <;> rfl), by repeat (first | (with_reducible first | exact HB.out | apply below_alloc | apply pw_below_drewN | apply below_drew1 | refine below_set ?_ GE779.out | refine below_set ?_ GE787.out | refine below_set ?_ GE791.out | refine below_set ?_ GE795.out) | exact HB.out)⟩

/-- THE ONE PURE STATEMENT of laws_FnExactChanceBegins. -/
def laws_FnExactChanceBegins.Pure : Prop := ∀ (l0_0 : List S82) (a1 : Int) (a2 : Int), l0_0.length ≤ 9223372036854775807 → (Lit.int .i64 a1).wf = true → (Lit.int .i64 a2).wf = true → ∃ k, laws_FnExactChanceBegins.f k l0_0 a1 a2 = some true
theorem laws_FnExactChanceBegins.walk (P : laws_FnExactChanceBegins.Pure) (w : World) (A0 : Option Addr) (c0 : Nat) (l0_0 : List S82) (hr0 : Kd.C k82 w A0 l0_0.length l0_0) (hc0 : l0_0.length ≤ c0) (a1 : Int) (w1 : (Lit.int .i64 a1).wf = true) (a2 : Int) (w2 : (Lit.int .i64 a2).wf = true) :
  Calls Try.prog 10 #[.agg #[.slice A0 l0_0.length c0], .int .i64 a1, .int .i64 a2] w fun e w' => e = .returned (.bool true) ∧ Below w.heap.size w w' := by
 obtain ⟨k, h⟩ := P l0_0 a1 a2 hr0.2.1 w1 w2
 refine (laws_FnExactChanceBegins.calls k _ _ l0_0 a1 a2 true w hr0 hc0 h).mono ?_
 rintro e w' ⟨rfl, hd⟩
 exact ⟨rfl, hd⟩

end Go.Proofs.Ytgagmodkjmegeaa.P

namespace Go.Proofs.Ytgagmodkjmegeaa.P
open Go.RowKit Go.Proofs.YtgagmodkjmegeaaW.PrintWords Go.Proofs.YtgagmodkjmegeaaW.PrintLast Go.Proofs.YtgagmodkjmegeaaW.PrintMore
attribute [local go_sem] max2_int min2_int max_two min_two max_three min_three max_four min_four
set_option linter.unusedVariables false
set_option linter.unusedSimpArgs false

namespace OT
open Go.ChangeShapes Go.WideShapes Go.Deep Go.ChangeAt Go.Joins
section
variable {H : Type} {enc : TypeId × Value → H} {P : Program} {w : World} {base : Nat} {spare : Nat → Bool} {held : Bool}
/-- A slice of structs of one-cell fields: each element's cells with their readings. -/
theorem fields {t e : TypeId} {fs : Array Field} {fuel : Nat} {cs : List Value} {x : DataW H × List MemPlace} (ht : P.underlying t = some (.slice e)) (he : P.underlying e = some (.struct fs))
    (hone : oneCellFields P fs = true) (hC : P.cellsOf e = fs.size) (h : DataW.trod enc P w base spare held fuel t cs = some x) :
    (cs = [.slice none 0 0]) ∨
    ∃ (a : Addr) (len cap : Nat), cs = [.slice (some a) len cap] ∧ len ≤ cap ∧ cap ≤ maxLen ∧
      ∀ i, i < len → ∃ n : Nat, ∀ (j : Nat) (f : Field), fs[j]? = some f → ∃ (v : Value) (y : DataW H × List MemPlace), w.cell? (a.add (i * fs.size + j)) = some v ∧ DataW.trod enc P w base spare held n f.type [v] = some y := by
  rcases open_slice ht h with h0 | ⟨a, len, cap, m, n, D, Pl, hcs, hb, hl, hm, hmm, hx, hi⟩
  · exact .inl h0.1
  · refine .inr ⟨a, len, cap, hcs, hl, hm, fun i hil => ?_⟩
    have him : i < m := by rw [hmm]; split <;> omega
    obtain ⟨cs', hc, ht'⟩ := hi i him
    rw [hC] at hc
    obtain ⟨ys, n', hn', hy, hlen, hyl, hf⟩ := DataW.trod_struct he ht'
    obtain ⟨_, hcl, hat⟩ := World.cells?_some hc
    refine ⟨n', fun j f hj => ?_⟩
    obtain ⟨ho, hk⟩ := hone_of hone j f hj
    have hjl : j < fs.size := (Array.getElem?_eq_some_iff.1 hj).1
    have hcell := hat j hjl
    have hv : cs'[j]? = some (cs'[j]'(by omega)) := List.getElem?_eq_getElem (by omega)
    have h1 := hf j f hj
    rw [ho, hk] at h1
    have hone' : (cs'.drop j).take 1 = [cs'[j]'(by omega)] := by
      rw [List.drop_eq_getElem_cons (by omega)]
      rfl
    rw [hone'] at h1
    have hys : ys[j]? = some (ys[j]'(by omega)) := List.getElem?_eq_getElem (by omega)
    refine ⟨_, _, ?_, h1.trans hys⟩
    rw [← Go.Deep.add_add, hcell, hv]
theorem array1 {α : Type} {cs : Array α} (h : cs.size = 1) : ∃ c0, cs = #[c0] := by
  obtain ⟨l⟩ := cs
  match l, h with
  | [c0], _ => exact ⟨c0, rfl⟩
theorem agg1 {r : Reach} {b0 : Nat} {t : TypeId} {f0 : Field} {v : Value} {d : DataW H} {p : List MemPlace} (hs : P.underlying t = some (.struct #[f0])) (hone : oneCellFields P #[f0] = true) (hC : P.cellsOf t = 1)
    (hv : Value.okWide P w r b0 t v) (h : DataW.Trod enc P w base spare held t v d p) :
    ∃ (v0 : Value) (y0 : DataW H × List MemPlace) (n : Nat), v = .agg #[v0] ∧ DataW.trod enc P w base spare held n f0.type [v0] = some y0 := by
  obtain ⟨cs, rfl, hsz⟩ := okWide_struct hs hv
  obtain ⟨c0, rfl⟩ := array1 (hsz.trans hC)
  obtain ⟨fuel, hf⟩ := h
  obtain ⟨xs, n, _, hx, _, hlen, hg⟩ := DataW.trod_struct hs hf
  obtain ⟨o0, k0⟩ := hone_of hone 0 f0 rfl
  have h0 := hg 0 f0 rfl
  have hl : 0 < xs.length := by rw [hlen]; exact Nat.zero_lt_one
  rw [List.getElem?_eq_getElem hl] at h0
  exact ⟨c0, _, n, rfl, by simpa [Value.cells, o0, k0] using h0⟩
end
set_option maxRecDepth 100000 in
/-- The argument, opened: a slice of nodes. -/
theorem trie {H : Type} {enc : TypeId × Value → H} {w : World} {base : Nat} {spare : Nat → Bool} {held : Bool} {r : Reach} {b0 : Nat} {v : Value} {d : DataW H} {p : List MemPlace}
    (hv : Value.okWide Try.prog w r b0 24 v) (h : DataW.Trod enc Try.prog w base spare held 24 v d p) :
    ∃ (A : Option Addr) (cap : Nat) (l : List S82), v = .agg #[.slice A l.length cap] ∧ l.length ≤ cap ∧ Kd.C k82 w A l.length l := by
  obtain ⟨v0, y0, n, rfl, h0⟩ := agg1 Try.underlying24 (by kernel_rfl) (by kernel_rfl) hv h
  rcases fields Try.underlying22 Try.underlying82 (by kernel_rfl) (by kernel_rfl) h0 with e | ⟨a, len, cap, e, hl, hm, hi⟩
  · obtain rfl : v0 = .slice none 0 0 := by simpa using e
    exact ⟨none, 0, [], rfl, Nat.le_refl _, ⟨rfl, by simp, fun h => absurd h (Nat.lt_irrefl _)⟩⟩
  · obtain rfl : v0 = .slice (some a) len cap := by simpa using e
    have hex : ∀ i, i < len → ∃ x : S82, w.cell? (a.add (i * 3 + 0)) = some (.int .i64 x.f0) ∧ w.cell? (a.add (i * 3 + 1)) = some (.int .i64 x.f1) ∧ w.cell? (a.add (i * 3 + 2)) = some (.bool x.f2) := by
      intro i hil
      obtain ⟨n, hf⟩ := hi i hil
      obtain ⟨u0, y0, c0, t0⟩ := hf 0 _ rfl
      obtain ⟨u1, y1, c1, t1⟩ := hf 1 _ rfl
      obtain ⟨u2, y2, c2, t2⟩ := hf 2 _ rfl
      obtain ⟨n0, e0, _, _⟩ := DataW.trod_int Try.underlying3 t0
      obtain ⟨n1, e1, _, _⟩ := DataW.trod_int Try.underlying3 t1
      obtain ⟨b2, e2, _⟩ := DataW.trod_bool Try.underlying4 t2
      simp only [List.cons.injEq, and_true] at e0 e1 e2
      subst e0 e1 e2
      exact ⟨⟨n0, n1, b2⟩, c0, c1, c2⟩
    obtain ⟨g, hg⟩ : ∃ g : Nat → S82, ∀ i, i < len → w.cell? (a.add (i * 3 + 0)) = some (.int .i64 (g i).f0) ∧ w.cell? (a.add (i * 3 + 1)) = some (.int .i64 (g i).f1) ∧ w.cell? (a.add (i * 3 + 2)) = some (.bool (g i).f2) :=
      ⟨fun i => if h : i < len then Classical.choose (hex i h) else z82, fun i h => by simp only [dif_pos h]; exact Classical.choose_spec (hex i h)⟩
    refine ⟨some a, cap, (List.range len).map g, by simp, by simpa using hl, ⟨by simp, ?_, fun _ => ⟨a, rfl, fun j p hj => ?_⟩⟩⟩
    · have : (maxLen : Nat) ≤ 9223372036854775807 := by decide
      simp; omega
    · obtain ⟨hjl, rfl⟩ := List.getElem?_eq_some_iff.1 hj
      have hjl' : j < len := by simpa using hjl
      obtain ⟨c0, c1, c2⟩ := hg j hjl'
      rw [List.getElem_map, List.getElem_range]
      refine ⟨_, rfl, k82_mk w (g j), fun i u hu => ?_⟩
      match i, hu with
      | 0, hu => obtain rfl := Option.some.inj hu; exact c0
      | 1, hu => obtain rfl := Option.some.inj hu; exact c1
      | 2, hu => obtain rfl := Option.some.inj hu; exact c2
end OT

end Go.Proofs.Ytgagmodkjmegeaa.P

namespace Go.Proofs.Ytgagmodkjmegeaa.M
theorem txt_lt_snoc : ∀ (p : Txt) (x : UInt8), p < p ++ [x]
  | [], x => List.nil_lt_cons x []
  | a :: p, x => List.cons_lt_cons_iff.2 (.inr ⟨rfl, txt_lt_snoc p x⟩)
theorem dropLast_getD (p : Txt) (h : p ≠ []) : p.dropLast ++ [p.getD (p.length - 1) 0] = p := by
  have h0 := List.length_pos_iff.2 h
  have h1 : p.length - 1 < p.length := by omega
  rw [List.dropLast_eq_take, getD_lt 0 h1, ← List.take_succ_eq_append_getElem h1, List.take_of_length_le (by omega)]
theorem txt_dropLast_lt (p : Txt) (h : p ≠ []) : p.dropLast < p := by
  have := txt_lt_snoc p.dropLast (p.getD (p.length - 1) 0)
  rwa [dropLast_getD p h] at this
/-- The empty text is there, and each text's beginning. -/
def Clo (P : List Txt) : Prop := [] ∈ P ∧ ∀ p ∈ P, p ≠ [] → p.dropLast ∈ P
/-- The beginnings of a text but the empty one. -/
def begs (w : Txt) : List Txt := (List.range w.length).map fun n => w.take (n + 1)
/-- The beginnings of some texts. -/
def preL (ws : List Txt) : List Txt := setL ([] :: ws.flatMap begs)
theorem mem_begs {w p : Txt} : p ∈ begs w ↔ p ≠ [] ∧ p <+: w := by
  constructor
  · intro h
    obtain ⟨n, hn, rfl⟩ := List.mem_map.1 h
    rw [List.mem_range] at hn
    exact ⟨fun e => by have := congrArg List.length e; rw [List.length_take, List.length_nil] at this; omega, List.take_prefix _ _⟩
  · rintro ⟨h1, h2⟩
    have h3 := h2.length_le
    have h4 := List.length_pos_iff.2 h1
    refine List.mem_map.2 ⟨p.length - 1, List.mem_range.2 (by omega), ?_⟩
    rw [show p.length - 1 + 1 = p.length from by omega]
    exact (List.prefix_iff_eq_take.1 h2).symm
theorem mem_preL {ws : List Txt} {p : Txt} : p ∈ preL ws ↔ p = [] ∨ ∃ w ∈ ws, p ≠ [] ∧ p <+: w := by
  unfold preL
  rw [mem_setL, List.mem_cons, List.mem_flatMap]
  simp only [mem_begs]
theorem clo_preL (ws : List Txt) : Clo (preL ws) := by
  refine ⟨mem_preL.2 (.inl rfl), fun p hp hne => ?_⟩
  rcases mem_preL.1 hp with rfl | ⟨w, hw, _, h⟩
  · exact absurd rfl hne
  · by_cases h0 : p.dropLast = []
    · rw [h0]; exact mem_preL.2 (.inl rfl)
    · exact mem_preL.2 (.inr ⟨w, hw, h0, (List.dropLast_prefix p).trans h⟩)
theorem asc_preL (ws : List Txt) : Asc (preL ws) := asc_setL _
theorem self_preL {ws : List Txt} {w : Txt} (h : w ∈ ws) : w ∈ preL ws := by
  by_cases h0 : w = []
  · rw [h0]; exact mem_preL.2 (.inl rfl)
  · exact mem_preL.2 (.inr ⟨w, h, h0, List.prefix_refl _⟩)
theorem preL_congr {ws vs : List Txt} (h : ∀ w, w ∈ ws ↔ w ∈ vs) : preL ws = preL vs :=
  asc_ext _ _ (asc_preL _) (asc_preL _) fun y => by rw [mem_preL, mem_preL]; simp only [h]
theorem foldl_putL_len : ∀ (l acc : List Txt), (l.foldl putL acc).length ≤ acc.length + l.length
  | [], _ => Nat.le_refl _
  | x :: l, acc => by
    have h1 := foldl_putL_len l (putL acc x)
    have h2 := putL_length_le acc x
    rw [List.foldl_cons, List.length_cons]; omega
theorem setL_length_le (l : List Txt) : (setL l).length ≤ l.length := by have := foldl_putL_len l []; simpa [setL] using this
theorem begs_length (w : Txt) : (begs w).length = w.length := by simp [begs]
theorem flatMap_begs_length : ∀ (ws : List Txt), (∀ w ∈ ws, w.length ≤ 12) → (ws.flatMap begs).length ≤ 12 * ws.length
  | [], _ => by simp
  | w :: ws, h => by
    have h1 := flatMap_begs_length ws fun x hx => h x (List.mem_cons_of_mem _ hx)
    have h2 := h w (by simp)
    rw [List.flatMap_cons, List.length_append, begs_length, List.length_cons]; omega
theorem preL_length {ws : List Txt} (h : ∀ w ∈ ws, w.length ≤ 12) : (preL ws).length ≤ 12 * ws.length + 1 := by
  have h1 := flatMap_begs_length ws h
  have h2 := setL_length_le ([] :: ws.flatMap begs)
  unfold preL
  rw [List.length_cons] at h2
  omega
/-- The place of a text in a list. -/
def placeL : List Txt → Txt → Nat
  | [], _ => 0
  | x :: r, p => if x = p then 0 else placeL r p + 1
theorem placeL_le : ∀ (P : List Txt) (p : Txt), placeL P p ≤ P.length
  | [], _ => Nat.le_refl _
  | x :: r, p => by
    have := placeL_le r p
    by_cases h : x = p
    · simp [placeL, h]
    · simp only [placeL, if_neg h, List.length_cons]; omega
theorem placeL_mem : ∀ {P : List Txt} {p : Txt}, p ∈ P → placeL P p < P.length ∧ P.getD (placeL P p) [] = p
  | [], _, h => by simp at h
  | x :: r, p, h => by
    by_cases h0 : x = p
    · simp [placeL, h0]
    · have h1 : p ∈ r := by
        rcases List.mem_cons.1 h with e | e
        · exact absurd e.symm h0
        · exact e
      obtain ⟨h2, h3⟩ := placeL_mem h1
      simp only [placeL, if_neg h0, List.length_cons]
      exact ⟨by omega, by simpa using h3⟩
theorem getD_mem {P : List Txt} {i : Nat} (h : i < P.length) : P.getD i [] ∈ P := by rw [getD_lt [] h]; exact List.getElem_mem h
theorem asc_get {P : List Txt} (hA : Asc P) {i j : Nat} (hj : j < P.length) (hij : i < j) : P.getD i [] < P.getD j [] := by
  have := List.pairwise_iff_getElem.1 hA i j (by omega) hj hij
  rwa [getD_lt [] hj, getD_lt [] (show i < P.length by omega)]
theorem asc_get_lt {P : List Txt} (hA : Asc P) {i j : Nat} (hi : i < P.length) (hj : j < P.length) (h : P.getD i [] < P.getD j []) : i < j := by
  rcases Nat.lt_trichotomy i j with h1 | h1 | h1
  · exact h1
  · subst h1; exact absurd h (txt_irrefl _)
  · exact absurd (asc_get hA hi h1) (txt_asymm h)
theorem asc_inj {P : List Txt} (hA : Asc P) {i j : Nat} (hi : i < P.length) (hj : j < P.length) (h : P.getD i [] = P.getD j []) : i = j := by
  rcases Nat.lt_trichotomy i j with h1 | h1 | h1
  · exact absurd (h ▸ asc_get hA hj h1) (txt_irrefl _)
  · exact h1
  · exact absurd (h ▸ asc_get hA hi h1) (txt_irrefl _)
theorem placeL_get {P : List Txt} (hA : Asc P) {i : Nat} (hi : i < P.length) : placeL P (P.getD i []) = i := by
  obtain ⟨h1, h2⟩ := placeL_mem (getD_mem hi)
  exact asc_inj hA h1 hi h2
theorem clo_zero {P : List Txt} (hA : Asc P) (hC : Clo P) : 0 < P.length ∧ P.getD 0 [] = [] := by
  obtain ⟨h1, h2⟩ := placeL_mem hC.1
  refine ⟨by omega, ?_⟩
  rcases Nat.eq_zero_or_pos (placeL P []) with h0 | h0
  · rwa [h0] at h2
  · have := asc_get hA h1 h0
    rw [h2] at this
    exact absurd this (List.not_lt_nil _)
theorem clo_pos {P : List Txt} (hA : Asc P) (hC : Clo P) {i : Nat} (hi : i < P.length) (h0 : 0 < i) : P.getD i [] ≠ [] := fun e => by
  obtain ⟨h1, h2⟩ := clo_zero hA hC
  have := asc_inj hA hi h1 (e.trans h2.symm)
  omega
/-- The place of a node's parent comes ahead of it. -/
theorem clo_parent {P : List Txt} (hA : Asc P) (hC : Clo P) {i : Nat} (hi : i < P.length) (h0 : 0 < i) :
    placeL P (P.getD i []).dropLast < i ∧ P.getD (placeL P (P.getD i []).dropLast) [] = (P.getD i []).dropLast := by
  have hne := clo_pos hA hC hi h0
  obtain ⟨h1, h2⟩ := placeL_mem (hC.2 _ (getD_mem hi) hne)
  exact ⟨asc_get_lt hA h1 hi (by rw [h2]; exact txt_dropLast_lt _ hne), h2⟩
/-- A node: its letter, its parent's place, and whether a word ends there. -/
def ltrOf (p : Txt) : Int := (((p.getD (p.length - 1) 0).toNat : Int) - 97) % 256
def ndL (P ws : List Txt) (p : Txt) : Int × Int × Bool := (if p = [] then -1 else ltrOf p, if p = [] then -1 else (placeL P p.dropLast : Int), decide (p ∈ ws))
def nodesL (P ws : List Txt) : List (Int × Int × Bool) := P.map (ndL P ws)
/-- A word: at most twelve letters. -/
def wordL (w : Txt) : Bool := w.all letterB && decide (w.length ≤ 12)
/-- Words as a valid trie has them. -/
structure OkW (ws : List Txt) : Prop where
  asc : Asc ws
  len : ws.length ≤ 40
  word : ∀ w ∈ ws, wordL w = true
theorem wordL_iff {w : Txt} : wordL w = true ↔ (∀ c ∈ w, letterB c = true) ∧ w.length ≤ 12 := by
  unfold wordL
  rw [Bool.and_eq_true, List.all_eq_true, decide_eq_true_eq]
theorem OkW.le {ws : List Txt} (h : OkW ws) : ∀ w ∈ ws, w.length ≤ 12 := fun w hw => (wordL_iff.1 (h.word w hw)).2
theorem OkW.pre {ws : List Txt} (h : OkW ws) : (preL ws).length ≤ 481 := by
  have h1 := preL_length h.le
  have h2 := h.len
  omega
theorem wordL_pre {p w : Txt} (h : p <+: w) (hw : wordL w = true) : wordL p = true := by
  obtain ⟨h1, h2⟩ := wordL_iff.1 hw
  exact wordL_iff.2 ⟨fun c hc => h1 c (h.subset hc), Nat.le_trans h.length_le h2⟩
theorem preL_word {ws : List Txt} (h : ∀ w ∈ ws, wordL w = true) {p : Txt} (hp : p ∈ preL ws) : wordL p = true := by
  rcases mem_preL.1 hp with rfl | ⟨w, hw, _, h1⟩
  · rfl
  · exact wordL_pre h1 (h w hw)
theorem letter_bd {c : UInt8} (h : letterB c = true) : 97 ≤ c.toNat ∧ c.toNat ≤ 122 := by simpa [letterB] using h
theorem getLast_mem {p : Txt} (h : p ≠ []) : p.getD (p.length - 1) 0 ∈ p := by
  have := List.length_pos_iff.2 h
  rw [getD_lt 0 (show p.length - 1 < p.length by omega)]
  exact List.getElem_mem _
theorem ltrOf_bd {p : Txt} (hw : wordL p = true) (h : p ≠ []) : ltrOf p = ((p.getD (p.length - 1) 0).toNat : Int) - 97 ∧ 0 ≤ ltrOf p ∧ ltrOf p ≤ 25 := by
  have h1 := letter_bd ((wordL_iff.1 hw).1 _ (getLast_mem h))
  unfold ltrOf
  omega
/-- The words of a list of texts that are there: they come out again. -/
theorem filter_preL {ws : List Txt} (h : Asc ws) : (preL ws).filter (fun p => decide (p ∈ ws)) = ws := by
  refine asc_ext _ _ ((asc_preL ws).filter _) h fun y => ?_
  rw [List.mem_filter, decide_eq_true_eq]
  exact ⟨fun h => h.2, fun h => ⟨self_preL h, h⟩⟩

end Go.Proofs.Ytgagmodkjmegeaa.M

namespace Go.Proofs.Ytgagmodkjmegeaa.M
open Go.RowKit Go.Proofs.YtgagmodkjmegeaaW.PrintWords
theorem rdB (l : List Txt) (n : Nat) (h : n < l.length) : rdOf ByteArray.empty (l.map B) (n : Int) = B (l.getD n []) := by
  simp [rdOf, List.getD_eq_getElem?_getD, h]
theorem exBs (l : List ByteArray) : ∃ m : List Txt, l = m.map B := ⟨l.map fun x => x.data.toList, by rw [List.map_map]; exact ((List.map_congr_left (fun x _ => B_data x)).trans (List.map_id _)).symm⟩
theorem map_B_inj {l m : List Txt} (h : l.map B = m.map B) : l = m := (List.map_inj_right (fun _ _ h => B_inj h)).1 h

end Go.Proofs.Ytgagmodkjmegeaa.M

namespace Go.Proofs.Ytgagmodkjmegeaa.L
open Go.RowKit Go.Proofs.Ytgagmodkjmegeaa.P Go.Proofs.Ytgagmodkjmegeaa.M Go.Proofs.YtgagmodkjmegeaaW.PrintWords Go.Proofs.YtgagmodkjmegeaaW.PrintLast Go.Proofs.YtgagmodkjmegeaaW.PrintMore
set_option linter.unusedVariables false
def hasPre (s p : List UInt8) : Bool := s.take p.length == p
theorem HasPrefix_eq (s p : List UInt8) (hs : s.length ≤ 4611686018427387900) (hp : p.length ≤ 4611686018427387900) : strings_HasPrefix.f (B s) (B p) = some (hasPre s p) := by
  unfold strings_HasPrefix.f stringslite_HasPrefix.f hasPre
  by_cases h : p.length ≤ s.length
  · rw [if_pos (by simp; omega), if_pos (by omega), if_pos (by simp; omega)]; simp
  · rw [if_neg (by simp; omega)]
    have : (s.take p.length == p) = false := by
      simp only [beq_eq_false_iff_ne]
      intro e
      have := congrArg List.length e
      simp at this; omega
    simp [this]

end Go.Proofs.Ytgagmodkjmegeaa.L

namespace Go.Proofs.Ytgagmodkjmegeaa.M
open Go.Lib
theorem keeps_iff (d : Array Txt) (j : Nat) : keeps d j = true ↔ (j = 0 ∨ d[j]! ≠ d[j - 1]!) := by simp [keeps]
theorem mem_compact (zs : List Txt) (y : Txt) : y ∈ compact zs ↔ y ∈ zs := by
  unfold compact compactUpTo
  simp only [List.mem_map, List.mem_filter, List.mem_range]
  constructor
  · rintro ⟨j, ⟨hj, _⟩, rfl⟩
    rw [getElem!_pos zs.toArray j (by simpa using hj)]
    simp
  · intro hy
    have hex : ∃ n, ∃ h : n < zs.length, zs[n] = y := by
      obtain ⟨n, h, e⟩ := List.mem_iff_getElem.1 hy
      exact ⟨n, h, e⟩
    have key : ∀ n, (∃ h : n < zs.length, zs[n] = y) → ∃ m, m < zs.length ∧ keeps zs.toArray m = true ∧ zs.toArray[m]! = y := by
      intro n
      induction n with
      | zero => rintro ⟨h, e⟩; exact ⟨0, h, (keeps_iff _ _).2 (.inl rfl), by rw [getElem!_pos zs.toArray 0 (by simpa using h)]; simpa using e⟩
      | succ n ih =>
        rintro ⟨h, e⟩
        have e1 : zs.toArray[n + 1]! = y := by rw [getElem!_pos zs.toArray (n + 1) (by simpa using h)]; simpa using e
        by_cases hk : keeps zs.toArray (n + 1) = true
        · exact ⟨n + 1, h, hk, e1⟩
        · have : zs.toArray[n + 1]! = zs.toArray[n]! := by
            by_cases h9 : zs.toArray[n + 1]! = zs.toArray[n]!
            · exact h9
            · exact absurd ((keeps_iff _ _).2 (.inr h9)) hk
          refine ih ⟨by omega, ?_⟩
          have h2 : zs.toArray[n]! = zs[n] := by rw [getElem!_pos zs.toArray n (by simp; omega)]; simp
          rw [← h2, ← this, e1]
    obtain ⟨n, h⟩ := hex
    obtain ⟨m, h1, h2, h3⟩ := key n h
    exact ⟨m, ⟨h1, h2⟩, h3⟩
theorem pair_get {zs : List Txt} (h : zs.Pairwise (fun a b => decide (a ≤ b) = true)) {i j : Nat} (hij : i < j) (hj : j < zs.length) : zs.toArray[i]! ≤ zs.toArray[j]! := by
  have := List.pairwise_iff_getElem.1 h i j (by omega) hj hij
  rw [getElem!_pos zs.toArray i (by simp; omega), getElem!_pos zs.toArray j (by simpa using hj)]
  simpa using this
theorem asc_compact {zs : List Txt} (h : zs.Pairwise (fun a b => decide (a ≤ b) = true)) : Asc (compact zs) := by
  unfold Asc compact compactUpTo
  rw [List.pairwise_map]
  have h1 : ((List.range zs.length).filter (keeps zs.toArray)).Pairwise (· < ·) := List.Pairwise.filter _ List.pairwise_lt_range
  refine List.Pairwise.imp_of_mem ?_ h1
  intro a b ha hb hab
  rw [List.mem_filter, List.mem_range] at ha hb
  have hk := (keeps_iff _ _).1 hb.2
  have hne : zs.toArray[b]! ≠ zs.toArray[b - 1]! := by
    rcases hk with h0 | h0
    · omega
    · exact h0
  have h2 : zs.toArray[b - 1]! ≤ zs.toArray[b]! := pair_get h (by omega) hb.1
  have h3 : zs.toArray[a]! ≤ zs.toArray[b - 1]! := by
    by_cases e : a = b - 1
    · subst e; exact List.le_refl _
    · exact pair_get h (by omega) (by omega)
  have h4 : zs.toArray[b - 1]! < zs.toArray[b]! := by
    by_cases hlt : zs.toArray[b - 1]! < zs.toArray[b]!
    · exact hlt
    · exact absurd (List.le_antisymm (List.not_lt.1 hlt) h2) hne
  exact List.lt_of_le_of_lt h3 h4
theorem sorted_compact (l : List Txt) : compact (l.mergeSort fun x y => decide (x ≤ y)) = setL l := by
  have hp : (l.mergeSort fun x y => decide (x ≤ y)).Pairwise (fun a b => decide (a ≤ b) = true) := by
    refine List.pairwise_mergeSort ?_ ?_ l
    · intro a b c h1 h2
      simp only [decide_eq_true_eq] at h1 h2 ⊢
      exact List.le_trans h1 h2
    · intro a b
      simp only [Bool.or_eq_true, decide_eq_true_eq]
      exact List.le_total a b
  refine asc_ext _ _ (asc_compact hp) (asc_setL l) fun y => ?_
  rw [mem_compact, List.mem_mergeSort, mem_setL]

end Go.Proofs.Ytgagmodkjmegeaa.M

namespace Go.Proofs.Ytgagmodkjmegeaa.L
open Go.RowKit Go.Proofs.Ytgagmodkjmegeaa.P Go.Proofs.Ytgagmodkjmegeaa.M Go.Proofs.YtgagmodkjmegeaaW.PrintWords Go.Proofs.YtgagmodkjmegeaaW.PrintLast Go.Proofs.YtgagmodkjmegeaaW.PrintMore
set_option linter.unusedVariables false
theorem map_data (l : List Txt) : (l.map B).map (fun x => x.data.toList) = l := by
  rw [List.map_map]
  exact (List.map_congr_left (fun x _ => data_B x)).trans (List.map_id _)
theorem l2Put_eq (l : List Txt) (w : Txt) (h : l.length ≤ 4294967296) (h2 : ∀ x ∈ l, x.length ≤ 4611686018427387900) : spec_l2Put.f (l.map B) (B w) = some ((putL l w).map B) := by
  have hall : ((l.map B).all fun x => decide (x.size ≤ 4611686018427387900)) = true := List.all_eq_true.2 fun x hx => by
    obtain ⟨y, hy, rfl⟩ := List.mem_map.1 hx
    simpa using h2 y hy
  unfold spec_l2Put.f
  rw [map_data, data_B, if_pos ⟨by simpa using h, hall⟩]
theorem set_eq (l : List Txt) (h : l.length ≤ 4294967296) : impl_set.f (l.map B) = some ((setL l).map B) := by
  unfold impl_set.f
  rw [if_pos (by simpa using h), map_data, sorted_compact]
  rfl

end Go.Proofs.Ytgagmodkjmegeaa.L

namespace Go.Proofs.Ytgagmodkjmegeaa.L
open Go.RowKit Go.Proofs.Ytgagmodkjmegeaa.P Go.Proofs.Ytgagmodkjmegeaa.M Go.Proofs.YtgagmodkjmegeaaW.PrintWords Go.Proofs.YtgagmodkjmegeaaW.PrintLast Go.Proofs.YtgagmodkjmegeaaW.PrintMore
set_option linter.unusedVariables false
theorem l1In_eq (a b c : Int) : spec_l1In.f a b c = some (decide (b ≤ a ∧ a ≤ c)) := by
  unfold spec_l1In.f
  by_cases h : b ≤ a
  · rw [if_pos (by omega)]; simp [h]
  · rw [if_neg (by omega)]; simp [h]
instance : DecidableEq S80 := fun a b => if h : a.f0 = b.f0 ∧ a.f1 = b.f1 ∧ a.f2 = b.f2 then isTrue (by obtain ⟨a0, a1, a2⟩ := a; obtain ⟨b0, b1, b2⟩ := b; obtain ⟨h1, h2, h3⟩ := h; simp only at h1 h2 h3; subst h1 h2 h3; rfl) else isFalse (fun e => h (by rw [e]; exact ⟨rfl, rfl, rfl⟩))
def mkN (x : Int × Int × Bool) : S80 := ⟨x.1, x.2.1, x.2.2⟩
def trN (P ws : List Txt) : List S80 := (nodesL P ws).map mkN
theorem trN_length (P ws : List Txt) : (trN P ws).length = P.length := by simp [trN, nodesL]
theorem rdN (P ws : List Txt) (i : Nat) (h : i < P.length) : rd_T80 (trN P ws) (i : Int) = mkN (ndL P ws (P.getD i [])) := by
  unfold rd_T80 trN nodesL
  rw [Int.toNat_natCast, getD_lt _ (by simpa using h), getD_lt _ h]
  simp
theorem strOfNums_B (n : Int) : strOfNums [n] = B [UInt8.ofNat n.toNat] := rfl
theorem letter_back {p : Txt} (hw : wordL p = true) (h : p ≠ []) : strOfNums [(wrap64 (97 + ltrOf p)) % 256] = B [p.getD (p.length - 1) 0] := by
  obtain ⟨h1, h2, h3⟩ := ltrOf_bd hw h
  have h4 := letter_bd ((wordL_iff.1 hw).1 _ (getLast_mem h))
  rw [strOfNums_B]
  congr 2
  have e : (wrap64 (97 + ltrOf p) % 256).toNat = (p.getD (p.length - 1) 0).toNat := by rw [wrap64_id (by omega) (by omega)]; omega
  rw [e]
  simp
/-! words -/
theorem l2Word_loop (l : Txt) (hl : l.length ≤ 4611686018427387903) : ∀ (d n : Nat), n + d = l.length → Ev (fun k => spec_l2Word.l0 k (B l) (n : Int)) ((l.drop n).all letterB && decide (l.length ≤ 12)) := by
  have last : ∀ n : Nat, Ev (fun k => spec_l2Word.j1 k (B l) (n : Int) false) (decide (l.length ≤ 12)) := by
    intro n
    refine Ev.step (fun k => spec_l2Word.j1.eq_2 ..) (Ev.ifF (by simp) ?_)
    have : decide (((B l).size : Int) ≤ 12) = decide (l.length ≤ 12) := by simp; omega
    rw [this]; exact Ev.now _
  intro d
  induction d with
  | zero =>
    intro n hn
    refine Ev.step (fun k => spec_l2Word.l0.eq_2 ..) (Ev.ifF (by simp; omega) ?_)
    rw [List.drop_of_length_le (by omega)]; simpa using last n
  | succ d ih =>
    intro n hn
    have h1 : n < l.length := by omega
    refine Ev.step (fun k => spec_l2Word.l0.eq_2 ..) (Ev.ifT (by simp; omega) ?_)
    rw [drop_cons_getD 0 h1]
    by_cases h16 : n ≤ 12
    · rw [show decide ((n : Int) ≤ 12) = true from by simp; omega]
      refine Ev.step (fun k => spec_l2Word.j1.eq_2 ..) (Ev.ifT rfl (Ev.ifT (by omega) (Ev.ifT (by simp; omega) ?_)))
      simp only [bt_B l n h1]
      by_cases ha : ((l.getD n 0).toNat : Int) < 97
      · refine Ev.ifT ha ?_
        have : letterB (l.getD n 0) = false := by simp only [letterB, decide_eq_false_iff_not]; omega
        simpa only [List.all_cons, this, Bool.false_and] using Ev.now false
      refine Ev.ifF ha ?_
      by_cases hz : ((l.getD n 0).toNat : Int) > 122
      · refine Ev.ifT hz ?_
        have : letterB (l.getD n 0) = false := by simp only [letterB, decide_eq_false_iff_not]; omega
        simpa only [List.all_cons, this, Bool.false_and] using Ev.now false
      refine Ev.ifF hz ?_
      have : letterB (l.getD n 0) = true := by simp only [letterB, decide_eq_true_eq]; omega
      simpa only [wrap64_succ n (by omega), List.all_cons, this, Bool.true_and] using ih (n + 1) (by omega)
    · rw [show decide ((n : Int) ≤ 12) = false from by simp; omega]
      have : ((l.getD n 0 :: l.drop (n + 1)).all letterB && decide (l.length ≤ 12)) = decide (l.length ≤ 12) := by
        have : decide (l.length ≤ 12) = false := by simp; omega
        rw [this]; simp
      rw [this]; exact last n
theorem l2Word_ev (l : Txt) (hl : l.length ≤ 4611686018427387903) : Ev (fun k => spec_l2Word.f k (B l)) (wordL l) := by
  simpa [spec_l2Word.f, wordL] using l2Word_loop l hl l.length 0 (by omega)
/-! prefixes -/
theorem l2Prefix_last (x1 : Int) (s : Txt) (N : List S80) : Ev (fun k => spec_l2Prefix.j1 k x1 (B s) false N) (if x1 = 0 then B s else B [63]) := by
  refine Ev.step (fun k => spec_l2Prefix.j1.eq_2 ..) (Ev.ifF (by simp) ?_)
  by_cases h : x1 = 0
  · have e : (if x1 = 0 then B s else B [63]) = B s := if_pos h
    rw [e]; exact Ev.ifT h (Ev.now _)
  · have e : (if x1 = 0 then B s else B [63]) = B [63] := if_neg h
    rw [e]; exact Ev.ifF h (Ev.now _)
theorem l2Prefix_ex (N : List S80) : ∀ (d : Nat) (x1 : Int) (s : Txt), x1.toNat ≤ d → x1 < N.length → s.length ≤ 13 → ∃ r : Txt, r.length ≤ 13 ∧ Ev (fun k => spec_l2Prefix.l0 k x1 (B s) N) (B r) := by
  have low : ∀ (x1 : Int) (s : Txt), x1 ≤ 0 → s.length ≤ 13 → ∃ r : Txt, r.length ≤ 13 ∧ Ev (fun k => spec_l2Prefix.l0 k x1 (B s) N) (B r) := by
    intro x1 s h1 h2
    have hl := l2Prefix_last x1 s N
    by_cases h : x1 = 0
    · rw [if_pos h] at hl; exact ⟨s, h2, Ev.step (fun k => spec_l2Prefix.l0.eq_2 ..) (Ev.ifF (by omega) hl)⟩
    · rw [if_neg h] at hl; exact ⟨[63], by simp, Ev.step (fun k => spec_l2Prefix.l0.eq_2 ..) (Ev.ifF (by omega) hl)⟩
  intro d
  induction d with
  | zero => intro x1 s h1 h2 h3; exact low x1 s (by omega) h3
  | succ d ih =>
    intro x1 s h1 h2 h3
    by_cases hp : x1 ≤ 0
    · exact low x1 s hp h3
    by_cases h12 : s.length ≤ 12
    · have hd : decide (((B s).size : Int) ≤ 12) = true := by simp; omega
      by_cases hin : (0 : Int) ≤ (rd_T80 N x1).f0 ∧ (rd_T80 N x1).f0 ≤ 25
      · by_cases hpar : (rd_T80 N x1).f1 ≥ x1
        · refine ⟨[63], by simp, Ev.step (fun k => spec_l2Prefix.l0.eq_2 ..) (Ev.ifT (by omega) ?_)⟩
          rw [hd]
          refine Ev.step (fun k => spec_l2Prefix.j1.eq_2 ..) (Ev.ifT rfl (Ev.ifT (by omega) (Ev.ifT h2 ?_)))
          rw [l1In_eq, decide_eq_true hin]
          exact Ev.some_bind (Ev.ifT rfl (Ev.ifT hpar (Ev.now _)))
        · obtain ⟨r, hr, he⟩ := ih (rd_T80 N x1).f1 (UInt8.ofNat ((wrap64 (97 + (rd_T80 N x1).f0)) % 256).toNat :: s) (by omega) (by omega) (by simp; omega)
          refine ⟨r, hr, Ev.step (fun k => spec_l2Prefix.l0.eq_2 ..) (Ev.ifT (by omega) ?_)⟩
          rw [hd]
          refine Ev.step (fun k => spec_l2Prefix.j1.eq_2 ..) (Ev.ifT rfl (Ev.ifT (by omega) (Ev.ifT h2 ?_)))
          rw [l1In_eq, decide_eq_true hin]
          refine Ev.some_bind (Ev.ifT rfl (Ev.ifF hpar (Ev.some_bind ?_)))
          rw [strOfNums_B, append_B]
          exact Ev.ifT (by simp; omega) he
      · refine ⟨[63], by simp, Ev.step (fun k => spec_l2Prefix.l0.eq_2 ..) (Ev.ifT (by omega) ?_)⟩
        rw [hd]
        refine Ev.step (fun k => spec_l2Prefix.j1.eq_2 ..) (Ev.ifT rfl (Ev.ifT (by omega) (Ev.ifT h2 ?_)))
        rw [l1In_eq, decide_eq_false hin]
        exact Ev.some_bind (Ev.ifF (by simp) (Ev.now _))
    · have hd : decide (((B s).size : Int) ≤ 12) = false := by simp; omega
      refine ⟨[63], by simp, Ev.step (fun k => spec_l2Prefix.l0.eq_2 ..) (Ev.ifT (by omega) ?_)⟩
      rw [hd]
      have hl := l2Prefix_last x1 s N
      rwa [if_neg (by omega)] at hl
theorem l2Prefix_up {P : List Txt} (ws : List Txt) (hA : Asc P) (hC : Clo P) (hW : ∀ p ∈ P, wordL p = true) : ∀ (n : Nat) (p s : Txt), p.length = n → p ∈ P → (p ++ s).length ≤ 12 → Ev (fun k => spec_l2Prefix.l0 k (placeL P p : Int) (B s) (trN P ws)) (B (p ++ s)) := by
  intro n
  induction n with
  | zero =>
    intro p s h1 h2 h3
    have hp : p = [] := List.eq_nil_of_length_eq_zero h1
    subst hp
    obtain ⟨z1, z2⟩ := clo_zero hA hC
    have hz : placeL P [] = 0 := by have := placeL_get hA z1; rwa [z2] at this
    rw [hz]
    have hl := l2Prefix_last ((0 : Nat) : Int) s (trN P ws)
    exact Ev.step (fun k => spec_l2Prefix.l0.eq_2 ..) (Ev.ifF (by simp) (by simpa using hl))
  | succ n ih =>
    intro p s h1 h2 h3
    have hne : p ≠ [] := fun e => by rw [e] at h1; simp at h1
    obtain ⟨i1, i2⟩ := placeL_mem h2
    have i3 : 0 < placeL P p := by
      rcases Nat.eq_zero_or_pos (placeL P p) with h0 | h0
      · rw [h0, (clo_zero hA hC).2] at i2; exact absurd i2.symm hne
      · exact h0
    obtain ⟨j1, j2⟩ := clo_parent hA hC i1 i3
    rw [i2] at j1 j2
    have hsl : s.length ≤ 12 := by rw [List.length_append] at h3; omega
    have hd : decide (((B s).size : Int) ≤ 12) = true := by simp; omega
    have hf : rd_T80 (trN P ws) (placeL P p : Int) = ⟨ltrOf p, (placeL P p.dropLast : Int), decide (p ∈ ws)⟩ := by
      rw [rdN P ws _ i1, i2]; unfold mkN ndL; rw [if_neg hne, if_neg hne]
    obtain ⟨_, b1, b2⟩ := ltrOf_bd (hW p h2) hne
    refine Ev.step (fun k => spec_l2Prefix.l0.eq_2 ..) (Ev.ifT (by omega) ?_)
    rw [hd]
    refine Ev.step (fun k => spec_l2Prefix.j1.eq_2 ..) (Ev.ifT rfl (Ev.ifT (by omega) (Ev.ifT (by rw [trN_length]; omega) ?_)))
    rw [hf, l1In_eq, decide_eq_true ⟨b1, b2⟩]
    refine Ev.some_bind (Ev.ifT rfl (Ev.ifF (by show ¬ ((placeL P p.dropLast : Nat) : Int) ≥ ((placeL P p : Nat) : Int); omega) (Ev.some_bind ?_)))
    rw [letter_back (hW p h2) hne, append_B]
    have hpd : p.dropLast.length = n := by rw [List.length_dropLast]; omega
    have e1 : p.dropLast ++ ([p.getD (p.length - 1) 0] ++ s) = p ++ s := by rw [← List.append_assoc, dropLast_getD p hne]
    refine Ev.ifT (by simp; omega) ?_
    have := ih p.dropLast ([p.getD (p.length - 1) 0] ++ s) hpd (hC.2 p h2 hne) (by rw [e1]; exact h3)
    rwa [e1] at this
theorem l2Prefix_ev {P : List Txt} (ws : List Txt) (hA : Asc P) (hC : Clo P) (hW : ∀ p ∈ P, wordL p = true) (i : Nat) (hi : i < P.length) : Ev (fun k => spec_l2Prefix.f k (trN P ws) (i : Int)) (B (P.getD i [])) := by
  have hm := getD_mem hi
  have := l2Prefix_up ws hA hC hW _ (P.getD i []) [] rfl hm (by rw [List.append_nil]; exact (wordL_iff.1 (hW _ hm)).2)
  rw [placeL_get hA hi, List.append_nil] at this
  exact this
/-! words of a trie -/
theorem l2Words_loop_ex (N : List S80) (hN : N.length ≤ 4294967296) : ∀ (d i : Nat) (acc : List Txt), i + d = N.length → acc.length ≤ i → (∀ w ∈ acc, w.length ≤ 13) →
    ∃ ws : List Txt, ws.length ≤ N.length ∧ (∀ w ∈ ws, w.length ≤ 13) ∧ Ev (fun k => spec_l2Words.l0 k (acc.map B) (i : Int) N) (ws.map B) := by
  intro d
  induction d with
  | zero => intro i acc h1 h2 h3; exact ⟨acc, by omega, h3, Ev.step (fun k => spec_l2Words.l0.eq_2 ..) (Ev.ifF (by omega) (Ev.now _))⟩
  | succ d ih =>
    intro i acc h1 h2 h3
    by_cases hf : (rd_T80 N (i : Int)).f2 = true
    · obtain ⟨r, hr, he⟩ := l2Prefix_ex N i (i : Int) [] (by omega) (by omega) (by simp)
      obtain ⟨ws, w1, w2, w3⟩ := ih (i + 1) (acc ++ [r]) (by omega) (by simp; omega) (fun w hw => by
        rcases List.mem_append.1 hw with hw | hw
        · exact h3 w hw
        · rw [List.mem_singleton.1 hw]; exact hr)
      refine ⟨ws, w1, w2, Ev.step (fun k => spec_l2Words.l0.eq_2 ..) (Ev.ifT (by omega) (Ev.ifT (by omega) (Ev.ifT hf (Ev.bind (f := fun k t => if (acc.map B).length < 8796093022208 then spec_l2Words.l0 k (acc.map B ++ [t]) (wrap64 ((i : Int) + 1)) N else none) he (Ev.ifT (by simp; omega) ?_)))))⟩
      simpa only [wrap64_succ i (by omega), List.map_append, List.map_cons, List.map_nil] using w3
    · obtain ⟨ws, w1, w2, w3⟩ := ih (i + 1) acc (by omega) (by omega) h3
      refine ⟨ws, w1, w2, Ev.step (fun k => spec_l2Words.l0.eq_2 ..) (Ev.ifT (by omega) (Ev.ifT (by omega) (Ev.ifF hf ?_)))⟩
      simpa only [wrap64_succ i (by omega)] using w3
theorem l2Words_ex (N : List S80) (hN : N.length ≤ 4294967296) : ∃ ws : List Txt, ws.length ≤ N.length ∧ (∀ w ∈ ws, w.length ≤ 13) ∧ Ev (fun k => spec_l2Words.f k N) (ws.map B) :=
  l2Words_loop_ex N hN N.length 0 [] (by omega) (by simp) (by simp)
theorem l2Words_loop {P : List Txt} (ws : List Txt) (hA : Asc P) (hC : Clo P) (hW : ∀ p ∈ P, wordL p = true) (hP : P.length ≤ 4294967296) : ∀ (d i : Nat) (acc : List Txt), i + d = P.length → acc.length ≤ i →
    Ev (fun k => spec_l2Words.l0 k (acc.map B) (i : Int) (trN P ws)) ((acc ++ (P.drop i).filter (fun p => decide (p ∈ ws))).map B) := by
  intro d
  induction d with
  | zero =>
    intro i acc h1 h2
    rw [List.drop_of_length_le (by omega)]
    exact Ev.step (fun k => spec_l2Words.l0.eq_2 ..) (Ev.ifF (by rw [trN_length]; omega) (by simpa using Ev.now _))
  | succ d ih =>
    intro i acc h1 h2
    have hi : i < P.length := by omega
    have hf : (rd_T80 (trN P ws) (i : Int)).f2 = decide (P.getD i [] ∈ ws) := by rw [rdN P ws i hi]; rfl
    rw [drop_cons_getD [] hi, List.filter_cons]
    by_cases hm : P.getD i [] ∈ ws
    · rw [decide_eq_true hm] at hf
      rw [decide_eq_true hm, if_pos rfl]
      refine Ev.step (fun k => spec_l2Words.l0.eq_2 ..) (Ev.ifT (by rw [trN_length]; omega) (Ev.ifT (by omega) (Ev.ifT hf (Ev.bind (f := fun k t => if (acc.map B).length < 8796093022208 then spec_l2Words.l0 k (acc.map B ++ [t]) (wrap64 ((i : Int) + 1)) (trN P ws) else none) (l2Prefix_ev ws hA hC hW i hi) (Ev.ifT (by simp; omega) ?_)))))
      have := ih (i + 1) (acc ++ [P.getD i []]) (by omega) (by simp; omega)
      simpa only [wrap64_succ i (by omega), List.map_append, List.map_cons, List.map_nil, List.append_assoc, List.singleton_append] using this
    · rw [decide_eq_false hm] at hf
      rw [decide_eq_false hm, if_neg Bool.false_ne_true]
      refine Ev.step (fun k => spec_l2Words.l0.eq_2 ..) (Ev.ifT (by rw [trN_length]; omega) (Ev.ifT (by omega) (Ev.ifF (by rw [hf]; exact Bool.false_ne_true) ?_)))
      simpa only [wrap64_succ i (by omega)] using ih (i + 1) acc (by omega) (by omega)
theorem l2Words_ev {ws : List Txt} (h : OkW ws) : Ev (fun k => spec_l2Words.f k (trN (preL ws) ws)) (ws.map B) := by
  have := l2Words_loop ws (asc_preL ws) (clo_preL ws) (fun p hp => preL_word h.word hp) (by have := h.pre; omega) (preL ws).length 0 [] (by omega) (by simp)
  rw [List.drop_zero, List.nil_append, filter_preL h.asc] at this
  exact this
/-! sets -/
def setR : List Txt → List Txt → List ByteArray × Bool
  | [], acc => (acc.map B, decide (acc.length ≤ 40))
  | w :: r, acc => if wordL w = true then setR r (putL acc w) else ([], false)
theorem setR_eq : ∀ (l acc : List Txt), setR l acc = if l.all wordL = true then ((l.foldl putL acc).map B, decide ((l.foldl putL acc).length ≤ 40)) else ([], false)
  | [], acc => rfl
  | w :: r, acc => by
    unfold setR
    rw [setR_eq r (putL acc w), List.all_cons, List.foldl_cons]
    cases h : wordL w with
    | false => rw [if_neg Bool.false_ne_true, if_neg (by rw [Bool.false_and]; exact Bool.false_ne_true)]
    | true => rw [if_pos rfl, Bool.true_and]
theorem l2Set_loop (ws : List Txt) (hl : ws.length ≤ 2147483648) (hw : ∀ w ∈ ws, w.length ≤ 13) : ∀ (d i : Nat) (acc : List Txt), i + d = ws.length → acc.length ≤ i → (∀ w ∈ acc, w.length ≤ 13) →
    Ev (fun k => spec_l2Set.l0 k (ws.map B) (acc.map B) (i : Int)) (setR (ws.drop i) acc) := by
  intro d
  induction d with
  | zero =>
    intro i acc h1 h2 h3
    rw [List.drop_of_length_le (by omega)]
    refine Ev.step (fun k => spec_l2Set.l0.eq_2 ..) (Ev.ifF (by simp; omega) ?_)
    have : decide (((acc.map B).length : Int) ≤ 40) = decide (acc.length ≤ 40) := by
      rw [List.length_map]; exact decide_eq_decide.2 (by omega)
    rw [this]
    exact Ev.now _
  | succ d ih =>
    intro i acc h1 h2 h3
    have hi : i < ws.length := by omega
    have hm := getD_mem hi
    rw [drop_cons_getD [] hi]
    refine Ev.step (fun k => spec_l2Set.l0.eq_2 ..) (Ev.ifT (by simp; omega) (Ev.ifT (by omega) ?_))
    rw [rdB ws i hi]
    refine Ev.bind (f := fun k t => if t = true then (spec_l2Put.f (acc.map B) (B (ws.getD i []))).bind fun t165 => spec_l2Set.l0 k (ws.map B) t165 (wrap64 ((i : Int) + 1)) else some ([], false)) (l2Word_ev _ (by have := hw _ hm; omega)) ?_
    unfold setR
    cases hq : wordL (ws.getD i []) with
    | false =>
      rw [if_neg Bool.false_ne_true]
      exact Ev.ifF Bool.false_ne_true (Ev.now _)
    | true =>
      rw [if_pos (show true = true from rfl)]
      refine Ev.ifT rfl ?_
      rw [l2Put_eq acc _ (by omega) (fun x hx => by have := h3 x hx; omega)]
      refine Ev.some_bind ?_
      have h6 := putL_length_le acc (ws.getD i [])
      have := ih (i + 1) (putL acc (ws.getD i [])) (by omega) (by omega) (fun x hx => by
        rcases (mem_putL _ _ _).1 hx with rfl | hx
        · exact hw _ hm
        · exact h3 x hx)
      rw [wrap64_succ i (by omega)]
      exact this
theorem l2Set_ev (ws : List Txt) (hl : ws.length ≤ 2147483648) (hw : ∀ w ∈ ws, w.length ≤ 13) : Ev (fun k => spec_l2Set.f k (ws.map B)) (if ws.all wordL = true then ((setL ws).map B, decide ((setL ws).length ≤ 40)) else ([], false)) := by
  have := l2Set_loop ws hl hw ws.length 0 [] (by omega) (by simp) (by simp)
  rw [List.drop_zero, setR_eq] at this
  exact this
/-! the trie of words -/
theorem l2Has_loop (l : List Txt) (p : Txt) (hl : l.length ≤ 4611686018427387903) : ∀ (d i : Nat), i + d = l.length → Ev (fun k => spec_l2Has.l0 k (l.map B) (B p) (i : Int)) (decide (p ∈ l.drop i)) := by
  intro d
  induction d with
  | zero =>
    intro i h
    rw [List.drop_of_length_le (by omega)]
    exact Ev.step (fun k => spec_l2Has.l0.eq_2 ..) (Ev.ifF (by simp; omega) (by simpa using Ev.now false))
  | succ d ih =>
    intro i h
    have hi : i < l.length := by omega
    refine Ev.step (fun k => spec_l2Has.l0.eq_2 ..) (Ev.ifT (by simp; omega) (Ev.ifT (by omega) ?_))
    rw [rdB l i hi, drop_cons_getD [] hi, toList_B, toList_B]
    by_cases e : l.getD i [] = p
    · rw [show decide (p ∈ l.getD i [] :: l.drop (i + 1)) = true from decide_eq_true (by rw [e]; exact List.mem_cons_self)]
      exact Ev.ifT e (Ev.now _)
    · rw [show decide (p ∈ l.getD i [] :: l.drop (i + 1)) = decide (p ∈ l.drop (i + 1)) from decide_eq_decide.2 ⟨fun h => (List.mem_cons.1 h).resolve_left (fun q => e q.symm), fun h => List.mem_cons_of_mem _ h⟩]
      refine Ev.ifF e ?_
      rw [wrap64_succ i (by omega)]
      exact ih (i + 1) (by omega)
theorem l2Has_ev (l : List Txt) (p : Txt) (hl : l.length ≤ 4611686018427387903) : Ev (fun k => spec_l2Has.f k (l.map B) (B p)) (decide (p ∈ l)) := by
  have := l2Has_loop l p hl l.length 0 (by omega)
  rw [List.drop_zero] at this
  exact this
theorem l2Place_loop (l : List Txt) (p : Txt) (hl : l.length ≤ 4611686018427387903) : ∀ (d i : Nat), i + d = l.length → Ev (fun k => spec_l2Place.l0 k (l.map B) (B p) (i : Int)) (if p ∈ l.drop i then ((i + placeL (l.drop i) p : Nat) : Int) else -1) := by
  intro d
  induction d with
  | zero =>
    intro i h
    rw [List.drop_of_length_le (by omega)]
    exact Ev.step (fun k => spec_l2Place.l0.eq_2 ..) (Ev.ifF (by simp; omega) (by simpa using Ev.now (-1 : Int)))
  | succ d ih =>
    intro i h
    have hi : i < l.length := by omega
    refine Ev.step (fun k => spec_l2Place.l0.eq_2 ..) (Ev.ifT (by simp; omega) (Ev.ifT (by omega) ?_))
    rw [rdB l i hi, drop_cons_getD [] hi, toList_B, toList_B]
    by_cases e : l.getD i [] = p
    · rw [if_pos (show p ∈ l.getD i [] :: l.drop (i + 1) from by rw [e]; exact List.mem_cons_self), placeL, if_pos e]
      exact Ev.ifT e (Ev.now _)
    · refine Ev.ifF e ?_
      rw [wrap64_succ i (by omega)]
      have h1 := ih (i + 1) (by omega)
      by_cases hm : p ∈ l.drop (i + 1)
      · rw [if_pos hm] at h1
        rw [if_pos (List.mem_cons_of_mem _ hm), placeL, if_neg e]
        rwa [show i + (placeL (l.drop (i + 1)) p + 1) = i + 1 + placeL (l.drop (i + 1)) p from by omega]
      · rw [if_neg hm] at h1
        rw [if_neg (fun h => hm ((List.mem_cons.1 h).resolve_left (fun q => e q.symm)))]
        exact h1
theorem l2Place_ev (l : List Txt) (p : Txt) (hl : l.length ≤ 4611686018427387903) (h : p ∈ l) : Ev (fun k => spec_l2Place.f k (l.map B) (B p)) (placeL l p : Int) := by
  have := l2Place_loop l p hl l.length 0 (by omega)
  rw [List.drop_zero, if_pos h, Nat.zero_add] at this
  exact this
def begF (w : Txt) : Nat → Nat → List Txt
  | _, 0 => []
  | n, d + 1 => w.take n :: begF w (n + 1) d
theorem begF_eq (w : Txt) : ∀ d n, begF w n d = (List.range d).map fun j => w.take (n + j)
  | 0, _ => rfl
  | d + 1, n => by
    rw [begF, begF_eq w d (n + 1), List.range_succ_eq_map, List.map_cons, List.map_map]
    congr 1
    exact List.map_congr_left fun j _ => by show w.take (n + 1 + j) = w.take (n + (j + 1)); congr 1; omega
theorem begs_begF (w : Txt) : begs w = begF w 1 w.length := by
  rw [begF_eq]
  exact List.map_congr_left fun j _ => by congr 1; omega
theorem begF_len (w : Txt) : ∀ d n, (begF w n d).length = d := fun d n => by rw [begF_eq]; simp
theorem l2Of_in (ws : List Txt) (hl : ws.length ≤ 40) (hw : ∀ w ∈ ws, w.length ≤ 12) (i : Nat) (hi : i < ws.length) (r : List S80) (acc2 : List Txt) (hr : Ev (fun k => spec_l2Of.l0 k (ws.map B) (acc2.map B) ((i + 1 : Nat) : Int)) r) :
    ∀ (d n : Nat) (acc : List Txt), 0 < n → n + d = (ws.getD i []).length + 1 → (begF (ws.getD i []) n d).foldl putL acc = acc2 → acc.length + d ≤ 1000 → (∀ x ∈ acc, x.length ≤ 12) → Ev (fun k => spec_l2Of.l1 k (ws.map B) (acc.map B) (i : Int) (n : Int)) r := by
  have hwi := hw _ (getD_mem hi)
  intro d
  induction d with
  | zero =>
    intro n acc h0 h1 h2 h3 h4
    rw [begF, List.foldl_nil] at h2
    subst h2
    refine Ev.step (fun k => spec_l2Of.l1.eq_2 ..) (Ev.ifT (by omega) (Ev.ifT (by simp; omega) (Ev.ifF (by rw [rdB ws i hi, size_B]; omega) ?_)))
    rw [wrap64_succ i (by omega)]
    exact hr
  | succ d ih =>
    intro n acc h0 h1 h2 h3 h4
    refine Ev.step (fun k => spec_l2Of.l1.eq_2 ..) (Ev.ifT (by omega) (Ev.ifT (by simp; omega) (Ev.ifT (by rw [rdB ws i hi, size_B]; omega) (Ev.ifT (by omega) ?_))))
    rw [rdB ws i hi, extract_B, List.drop_zero, Int.toNat_natCast, Nat.sub_zero, l2Put_eq acc _ (by omega) (fun x hx => by have := h4 x hx; omega)]
    refine Ev.some_bind ?_
    rw [wrap64_succ n (by omega)]
    have h6 := putL_length_le acc ((ws.getD i []).take n)
    exact ih (n + 1) (putL acc ((ws.getD i []).take n)) (by omega) (by omega) (by rw [← h2]; rfl) (by omega) (fun x hx => by
      rcases (mem_putL _ _ _).1 hx with rfl | hx
      · rw [List.length_take]; omega
      · exact h4 x hx)
theorem l2Of_out (ws : List Txt) (hl : ws.length ≤ 40) (hw : ∀ w ∈ ws, w.length ≤ 12) (r : List S80) (all : List Txt) (hr : Ev (fun k => spec_l2Of.l2 k (ws.map B) (all.map B) 0 []) r) :
    ∀ (d i : Nat) (acc : List Txt), i + d = ws.length → ((ws.drop i).flatMap begs).foldl putL acc = all → acc.length + 12 * d ≤ 600 → (∀ x ∈ acc, x.length ≤ 12) → Ev (fun k => spec_l2Of.l0 k (ws.map B) (acc.map B) (i : Int)) r := by
  intro d
  induction d with
  | zero =>
    intro i acc h1 h2 h3 h4
    rw [List.drop_of_length_le (by omega), List.flatMap_nil, List.foldl_nil] at h2
    subst h2
    exact Ev.step (fun k => spec_l2Of.l0.eq_2 ..) (Ev.ifF (by simp; omega) hr)
  | succ d ih =>
    intro i acc h1 h2 h3 h4
    have hi : i < ws.length := by omega
    have hwi := hw _ (getD_mem hi)
    rw [drop_cons_getD [] hi, List.flatMap_cons, List.foldl_append] at h2
    have h5 := foldl_putL_len (begs (ws.getD i [])) acc
    rw [begs_length] at h5
    have hn := ih (i + 1) _ (by omega) h2 (by omega) (fun x hx => by
      rcases (foldl_putL_mem _ _ _).1 hx with hx | hx
      · exact Nat.le_trans (mem_begs.1 hx).2.length_le hwi
      · exact h4 x hx)
    refine Ev.step (fun k => spec_l2Of.l0.eq_2 ..) (Ev.ifT (by simp; omega) ?_)
    exact l2Of_in ws hl hw i hi r _ hn (ws.getD i []).length 1 acc (by omega) (by omega) (by rw [← begs_begF]) (by omega) h4
theorem l2Of_nodes {ws P : List Txt} (hA : Asc P) (hC : Clo P) (hW : ∀ p ∈ P, wordL p = true) (hP : P.length ≤ 1000) (hl : ws.length ≤ 1000) : ∀ (d i : Nat) (acc : List S80), i + d = P.length → acc.length ≤ i →
    Ev (fun k => spec_l2Of.l2 k (ws.map B) (P.map B) (i : Int) acc) (acc ++ ((P.drop i).map fun p => mkN (ndL P ws p))) := by
  intro d
  induction d with
  | zero =>
    intro i acc h1 h2
    rw [List.drop_of_length_le (by omega), List.map_nil, List.append_nil]
    exact Ev.step (fun k => spec_l2Of.l2.eq_2 ..) (Ev.ifF (by simp; omega) (Ev.now _))
  | succ d ih =>
    intro i acc h1 h2
    have hi : i < P.length := by omega
    have hm := getD_mem hi
    rw [drop_cons_getD [] hi, List.map_cons]
    refine Ev.step (fun k => spec_l2Of.l2.eq_2 ..) (Ev.ifT (by simp; omega) (Ev.ifT (by omega) ?_))
    rw [rdB P i hi]
    refine Ev.bind (l2Has_ev ws (P.getD i []) (by omega)) ?_
    have hcons : ∀ x : S80, acc ++ (x :: (P.drop (i + 1)).map fun p => mkN (ndL P ws p)) = (acc ++ [x]) ++ (P.drop (i + 1)).map fun p => mkN (ndL P ws p) := fun x => by simp
    rw [hcons]
    by_cases h0 : i = 0
    · have hp : P.getD i [] = [] := by rw [h0]; exact (clo_zero hA hC).2
      refine Ev.ifF (by omega) (Ev.ifT (by omega) ?_)
      have hx : mkN (ndL P ws (P.getD i [])) = ⟨-1, -1, decide (P.getD i [] ∈ ws)⟩ := by unfold mkN ndL; rw [if_pos hp, if_pos hp]
      rw [hx, wrap64_succ i (by omega)]
      exact ih (i + 1) _ (by omega) (by simp; omega)
    · have hne := clo_pos hA hC hi (by omega)
      have hlen := List.length_pos_iff.2 hne
      have h12 := (wordL_iff.1 (hW _ hm)).2
      have hw1 : wrap64 (((B (P.getD i [])).size : Int) - 1) = ((P.getD i []).length - 1 : Nat) := by rw [size_B, wrap64_id (by omega) (by omega)]; omega
      rw [hw1]
      refine Ev.ifT (by omega) (Ev.ifT (by omega) (Ev.ifT (by rw [size_B]; omega) (Ev.ifT (by rw [size_B]; omega) ?_)))
      rw [extract_B, List.drop_zero, Int.toNat_natCast, Nat.sub_zero, ← List.dropLast_eq_take]
      refine Ev.bind (l2Place_ev P _ (by omega) (hC.2 _ hm hne)) (Ev.ifT (by omega) ?_)
      have hx : mkN (ndL P ws (P.getD i [])) = ⟨((bt (B (P.getD i [])) (((P.getD i []).length - 1 : Nat) : Int)) - 97) % 256, (placeL P (P.getD i []).dropLast : Int), decide (P.getD i [] ∈ ws)⟩ := by
        unfold mkN ndL
        rw [if_neg hne, if_neg hne, bt_B _ _ (by omega)]
        rfl
      rw [hx, wrap64_succ i (by omega)]
      exact ih (i + 1) _ (by omega) (by simp; omega)
theorem l2Of_ev {ws : List Txt} (h : OkW ws) : Ev (fun k => spec_l2Of.f k (ws.map B)) (trN (preL ws) ws) := by
  have h1 := h.pre
  have h2 := h.len
  have hn := l2Of_nodes (ws := ws) (asc_preL ws) (clo_preL ws) (fun p hp => preL_word h.word hp) (by omega) (by omega) (preL ws).length 0 [] (by omega) (by simp)
  rw [List.drop_zero, List.nil_append] at hn
  have e : (preL ws).map (fun p => mkN (ndL (preL ws) ws p)) = trN (preL ws) ws := by unfold trN nodesL; rw [List.map_map]; rfl
  rw [e] at hn
  exact l2Of_out ws h.len h.le _ (preL ws) hn ws.length 0 [[]] (by omega) rfl (by simp; omega) (by simp)
/-! sameness -/
theorem node_ne (a b : S80) : (!(a.f0 == b.f0) || (!(a.f1 == b.f1) || (!(a.f2 == b.f2)))) = decide (a ≠ b) := by
  obtain ⟨a0, a1, a2⟩ := a
  obtain ⟨b0, b1, b2⟩ := b
  rw [Bool.eq_iff_iff]
  simp only [Bool.or_eq_true, Bool.not_eq_true', beq_eq_false_iff_ne, decide_eq_true_eq, ne_eq, S80.mk.injEq]
  constructor
  · rintro (h | h | h) ⟨e1, e2, e3⟩
    · exact h e1
    · exact h e2
    · exact h e3
  · intro h
    by_cases e1 : a0 = b0
    · by_cases e2 : a1 = b1
      · exact .inr (.inr fun e3 => h ⟨e1, e2, e3⟩)
      · exact .inr (.inl e2)
    · exact .inl e1
theorem rd_get (N : List S80) (i : Nat) (h : i < N.length) : rd_T80 N (i : Int) = N[i] := by
  unfold rd_T80
  rw [Int.toNat_natCast, getD_lt _ h]
theorem l2Same_loop (M N : List S80) (hM : M.length ≤ 4611686018427387903) : ∀ (d i : Nat), i + d = M.length → i ≤ N.length → Ev (fun k => spec_l2Same.l0 k (i : Int) M N) (decide (M.drop i = N.drop i)) := by
  have fin : ∀ i : Nat, (i = M.length ∨ i = N.length) → i ≤ M.length → i ≤ N.length → Ev (fun k => spec_l2Same.j1 k (i : Int) false M N) (decide (M.drop i = N.drop i)) := by
    intro i h1 h2 h3
    refine Ev.step (fun k => spec_l2Same.j1.eq_2 ..) (Ev.ifF (by simp) ?_)
    have : ((M.length : Int) == (N.length : Int)) = decide (M.drop i = N.drop i) := by
      rw [Bool.eq_iff_iff, beq_iff_eq, decide_eq_true_eq]
      constructor
      · intro e
        rw [List.drop_of_length_le (by omega), List.drop_of_length_le (by omega)]
      · intro e
        have := congrArg List.length e
        rw [List.length_drop, List.length_drop] at this
        omega
    rw [this]
    exact Ev.now _
  intro d
  induction d with
  | zero =>
    intro i h1 h2
    exact Ev.step (fun k => spec_l2Same.l0.eq_2 ..) (Ev.ifF (by omega) (fin i (by omega) (by omega) h2))
  | succ d ih =>
    intro i h1 h2
    refine Ev.step (fun k => spec_l2Same.l0.eq_2 ..) (Ev.ifT (by omega) ?_)
    by_cases hi : i < N.length
    · rw [decide_eq_true (show (i : Int) < (N.length : Int) by omega)]
      refine Ev.step (fun k => spec_l2Same.j1.eq_2 ..) (Ev.ifT rfl (Ev.ifT (by omega) (Ev.ifT (by omega) (Ev.ifT (by omega) ?_))))
      rw [node_ne, rd_get M i (by omega), rd_get N i hi, List.drop_eq_getElem_cons (show i < M.length by omega), List.drop_eq_getElem_cons hi]
      by_cases e : M[i] = N[i]
      · refine Ev.ifF (by simp [e]) ?_
        rw [wrap64_succ i (by omega), show decide (M[i] :: M.drop (i + 1) = N[i] :: N.drop (i + 1)) = decide (M.drop (i + 1) = N.drop (i + 1)) from decide_eq_decide.2 ⟨fun h => (List.cons.inj h).2, fun h => by rw [e, h]⟩]
        exact ih (i + 1) (by omega) (by omega)
      · refine Ev.ifT (by simp [e]) ?_
        rw [show decide (M[i] :: M.drop (i + 1) = N[i] :: N.drop (i + 1)) = false from decide_eq_false fun h => e (List.cons.inj h).1]
        exact Ev.now _
    · rw [decide_eq_false (show ¬ (i : Int) < (N.length : Int) by omega)]
      exact fin i (by omega) (by omega) h2
theorem l2Same_ev (M N : List S80) (hM : M.length ≤ 4611686018427387903) : Ev (fun k => spec_l2Same.f k M N) (decide (M = N)) := by
  have := l2Same_loop M N hM M.length 0 (by omega) (by omega)
  rwa [List.drop_zero, List.drop_zero] at this
/-! validity -/
theorem okW_setL {ws : List Txt} (h : ws.all wordL = true) (hl : (setL ws).length ≤ 40) : OkW (setL ws) := ⟨asc_setL ws, hl, fun w hw => List.all_eq_true.1 h w ((mem_setL ws w).1 hw)⟩
/-- A list of nodes is the trie of words. -/
def IsTr (N : List S80) : Prop := ∃ ws, OkW ws ∧ N = trN (preL ws) ws
theorem IsTr.len {N : List S80} (h : IsTr N) : 1 ≤ N.length ∧ N.length ≤ 481 := by
  obtain ⟨ws, h, rfl⟩ := h
  rw [trN_length]
  exact ⟨(clo_zero (asc_preL ws) (clo_preL ws)).1, h.pre⟩
theorem l2Trie_ev (N : List S80) : ∃ b : Bool, (b = true ↔ IsTr N) ∧ Ev (fun k => spec_l2Trie.f k N) b := by
  unfold spec_l2Trie.f
  simp only [l1In_eq]
  by_cases hn : 1 ≤ (N.length : Int) ∧ (N.length : Int) ≤ 481
  · rw [decide_eq_true hn]
    by_cases ht : IsTr N
    · refine ⟨true, by simp [ht], Ev.some_bind (Ev.ifT rfl ?_)⟩
      obtain ⟨ws, h, rfl⟩ := ht
      refine Ev.bind (l2Words_ev h) (Ev.bind (l2Set_ev ws (by have := h.len; omega) (fun w hw => by have := h.le w hw; omega)) ?_)
      rw [if_pos (List.all_eq_true.2 h.word), setL_of_asc h.asc]
      refine Ev.ifT (by simpa using h.len) (Ev.bind (l2Of_ev h) (Ev.bind (l2Same_ev _ _ (by rw [trN_length]; have := h.pre; omega)) ?_))
      simpa using Ev.now true
    · refine ⟨false, by simp [ht], Ev.some_bind (Ev.ifT rfl ?_)⟩
      obtain ⟨ws, w1, w2, w3⟩ := l2Words_ex N (by omega)
      refine Ev.bind w3 (Ev.bind (l2Set_ev ws (by omega) w2) ?_)
      by_cases ha : ws.all wordL = true
      · rw [if_pos ha]
        by_cases hl : (setL ws).length ≤ 40
        · have hok := okW_setL ha hl
          refine Ev.ifT (by simpa using hl) (Ev.bind (l2Of_ev hok) (Ev.bind (l2Same_ev _ _ (by rw [trN_length]; have := hok.pre; omega)) ?_))
          rw [show decide (trN (preL (setL ws)) (setL ws) = N) = false from decide_eq_false fun e => ht ⟨_, hok, e.symm⟩]
          exact Ev.now false
        · exact Ev.ifF (by simpa using hl) (Ev.now false)
      · rw [if_neg ha]
        exact Ev.ifF (by simp) (Ev.now false)
  · rw [decide_eq_false hn]
    refine ⟨false, ?_, Ev.some_bind (Ev.ifF (by simp) (Ev.now false))⟩
    simp only [Bool.false_eq_true, false_iff]
    intro h
    have := h.len
    omega

end Go.Proofs.Ytgagmodkjmegeaa.L

namespace Go.Proofs.Ytgagmodkjmegeaa.L
open Go.RowKit Go.Proofs.Ytgagmodkjmegeaa.P Go.Proofs.Ytgagmodkjmegeaa.M Go.Proofs.YtgagmodkjmegeaaW.PrintWords Go.Proofs.YtgagmodkjmegeaaW.PrintLast Go.Proofs.YtgagmodkjmegeaaW.PrintMore
set_option linter.unusedVariables false
theorem in_eq (a b c : Int) : impl_in.f a b c = some (decide (b ≤ a ∧ a ≤ c)) := by
  unfold impl_in.f
  by_cases h : b ≤ a
  · rw [if_pos (by omega)]; simp [h]
  · rw [if_neg (by omega)]; simp [h]
abbrev Nd := S80
/-! order of texts -/
theorem bytesLess_eq : ∀ (x y : Txt), Op.bytesLess x y = decide (x < y)
  | [], [] => by rw [decide_eq_false (txt_irrefl [])]; rfl
  | _ :: _, [] => by rw [decide_eq_false (List.not_lt_nil _)]; rfl
  | [], b :: y => by rw [decide_eq_true (List.nil_lt_cons b y)]; rfl
  | a :: x, b :: y => by
    rw [Op.bytesLess, bytesLess_eq x y, Bool.eq_iff_iff, decide_eq_true_eq, List.cons_lt_cons_iff]
    simp
theorem less_eq (x y : Txt) : cmp_Less_string.f (B x) (B y) = some (decide (x < y)) := by
  unfold cmp_Less_string.f cmp_isNaN_string.f
  rw [toList_B, toList_B, ← bytesLess_eq]
  simp
/-- No text is less than the one ahead of it. -/
def Srt (ws : List Txt) : Prop := ∀ j, j + 1 < ws.length → ¬ ws.getD (j + 1) [] < ws.getD j []
theorem Srt.le {ws : List Txt} (h : Srt ws) (i : Nat) : ∀ d, i + d < ws.length → ¬ ws.getD (i + d) [] < ws.getD i []
  | 0, _ => txt_irrefl _
  | d + 1, hd => fun hlt => by
    have h1 := h.le i d (by omega)
    have h2 := h (i + d) (by omega)
    exact h1 (List.lt_of_le_of_lt (List.not_lt.1 h2) hlt)
theorem srt_asc {ws : List Txt} (h : Asc ws) : Srt ws := fun j hj => txt_asymm (asc_get h hj (Nat.lt_succ_self j))
theorem isSorted_loop (ws : List Txt) (hl : ws.length ≤ 4611686018427387903) : ∀ (n : Nat), n < ws.length → ∃ b : Bool, (b = true ↔ ∀ j, j < n → ¬ ws.getD (j + 1) [] < ws.getD j []) ∧ Ev (fun k => slices_IsSorted_string_string.l0 k (ws.map B) (n : Int)) b := by
  intro n
  induction n with
  | zero =>
    intro _
    exact ⟨true, by simp, Ev.step (fun k => slices_IsSorted_string_string.l0.eq_2 ..) (Ev.ifF (by simp) (Ev.now _))⟩
  | succ n ih =>
    intro hn
    have hw : wrap64 (((n + 1 : Nat) : Int) - 1) = (n : Int) := by rw [wrap64_id (by omega) (by omega)]; omega
    by_cases hlt : ws.getD (n + 1) [] < ws.getD n []
    · refine ⟨false, ?_, Ev.step (fun k => slices_IsSorted_string_string.l0.eq_2 ..) (Ev.ifT (by omega) (Ev.ifT (by omega) (Ev.ifT (by rw [List.length_map]; omega) (Ev.ifT (by rw [hw]; omega) (Ev.ifT (by rw [hw, List.length_map]; omega) ?_)))))⟩
      · simp only [Bool.false_eq_true, false_iff]
        exact fun h => h n (Nat.lt_succ_self n) hlt
      · rw [hw, rdB ws (n + 1) hn, rdB ws n (by omega), less_eq, decide_eq_true hlt]
        exact Ev.some_bind (Ev.ifT rfl (Ev.now _))
    · obtain ⟨b, hb, he⟩ := ih (by omega)
      refine ⟨b, hb.trans ⟨fun h j hj => ?_, fun h j hj => h j (by omega)⟩, Ev.step (fun k => slices_IsSorted_string_string.l0.eq_2 ..) (Ev.ifT (by omega) (Ev.ifT (by omega) (Ev.ifT (by rw [List.length_map]; omega) (Ev.ifT (by rw [hw]; omega) (Ev.ifT (by rw [hw, List.length_map]; omega) ?_)))))⟩
      · by_cases e : j = n
        · rw [e]; exact hlt
        · exact h j (by omega)
      · rw [hw, rdB ws (n + 1) hn, rdB ws n (by omega), less_eq, decide_eq_false hlt]
        exact Ev.some_bind (Ev.ifF Bool.false_ne_true he)
theorem isSorted_ev (ws : List Txt) (hl : ws.length ≤ 4611686018427387903) : ∃ b : Bool, (b = true ↔ Srt ws) ∧ Ev (fun k => slices_IsSorted_string_string.f k (ws.map B)) b := by
  unfold slices_IsSorted_string_string.f
  rcases Nat.eq_zero_or_pos ws.length with h0 | h0
  · refine ⟨true, ⟨fun _ j hj => by omega, fun _ => rfl⟩, ?_⟩
    rw [List.length_map, h0]
    exact Ev.step (fun k => slices_IsSorted_string_string.l0.eq_2 ..) (Ev.ifF (by rw [wrap64_id (by omega) (by omega)]; omega) (Ev.now _))
  · obtain ⟨b, hb, he⟩ := isSorted_loop ws hl (ws.length - 1) (by omega)
    refine ⟨b, hb.trans ⟨fun h j hj => h j (by omega), fun h j hj => h j (by omega)⟩, ?_⟩
    rw [List.length_map, show wrap64 ((ws.length : Int) - 1) = ((ws.length - 1 : Nat) : Int) from by rw [wrap64_id (by omega) (by omega)]; omega]
    exact he
/-! a search by halves -/
theorem half_eq (i j : Nat) (h : i + j ≤ 4611686018427387903) : wrap64 ((IntKind.u64.wrap (wrap64 ((i : Int) + (j : Int)))) / 2) = (((i + j) / 2 : Nat) : Int) := by
  have e1 : wrap64 ((i : Int) + (j : Int)) = ((i + j : Nat) : Int) := by rw [wrap64_id (by omega) (by omega)]; omega
  have e2 : IntKind.u64.wrap (((i + j : Nat) : Int)) = ((i + j : Nat) : Int) := by
    simp [IntKind.wrap, IntKind.bits, IntKind.signed]; omega
  rw [e1, e2, wrap64_id (by omega) (by omega)]
  omega
theorem search_loop (ws : List Txt) (p : Txt) (hl : ws.length ≤ 1000000000) (hs : Srt ws) : ∀ (d i j : Nat), i + d = j → j ≤ ws.length → (∀ m, m < i → ws.getD m [] < p) → (∀ m, j ≤ m → m < ws.length → ¬ ws.getD m [] < p) →
    ∃ q : Nat, q ≤ ws.length ∧ (∀ m, m < q → ws.getD m [] < p) ∧ (∀ m, q ≤ m → m < ws.length → ¬ ws.getD m [] < p) ∧ Ev (fun k => slices_BinarySearch_string_string.l0 k (ws.map B) (B p) (ws.length : Int) (i : Int) (j : Int)) ((q : Int), decide (p ∈ ws)) := by
  intro d
  induction d using Nat.strongRecOn with
  | _ d ih =>
    intro i j h1 h2 h3 h4
    by_cases hij : i < j
    · have hh : (i + j) / 2 < ws.length := by omega
      by_cases hlt : ws.getD ((i + j) / 2) [] < p
      · obtain ⟨q, q1, q2, q3, q4⟩ := ih (j - ((i + j) / 2 + 1)) (by omega) ((i + j) / 2 + 1) j (by omega) h2 (fun m hm => by
          by_cases e : m = (i + j) / 2
          · rw [e]; exact hlt
          · by_cases hmi : m < i
            · exact h3 m hmi
            · have hle := hs.le m ((i + j) / 2 - m) (by omega)
              rw [show m + ((i + j) / 2 - m) = (i + j) / 2 from by omega] at hle
              exact List.lt_of_le_of_lt (List.not_lt.1 hle) hlt) h4
        refine ⟨q, q1, q2, q3, Ev.step (fun k => slices_BinarySearch_string_string.l0.eq_2 ..) (Ev.ifT (by omega) ?_)⟩
        rw [half_eq i j (by omega)]
        refine Ev.ifT (by omega) (Ev.ifT (by rw [List.length_map]; omega) ?_)
        rw [rdB ws _ hh, less_eq, decide_eq_true hlt]
        refine Ev.some_bind (Ev.ifT rfl ?_)
        rw [wrap64_succ _ (by omega)]
        exact q4
      · obtain ⟨q, q1, q2, q3, q4⟩ := ih ((i + j) / 2 - i) (by omega) i ((i + j) / 2) (by omega) (by omega) h3 (fun m hm hml => by
          have hle := hs.le ((i + j) / 2) (m - (i + j) / 2) (by omega)
          rw [show (i + j) / 2 + (m - (i + j) / 2) = m from by omega] at hle
          exact fun hp => hlt (List.lt_of_le_of_lt (List.not_lt.1 hle) hp))
        refine ⟨q, q1, q2, q3, Ev.step (fun k => slices_BinarySearch_string_string.l0.eq_2 ..) (Ev.ifT (by omega) ?_)⟩
        rw [half_eq i j (by omega)]
        refine Ev.ifT (by omega) (Ev.ifT (by rw [List.length_map]; omega) ?_)
        rw [rdB ws _ hh, less_eq, decide_eq_false hlt]
        exact Ev.some_bind (Ev.ifF Bool.false_ne_true q4)
    · obtain rfl : i = j := by omega
      refine ⟨i, h2, h3, h4, Ev.step (fun k => slices_BinarySearch_string_string.l0.eq_2 ..) (Ev.ifF (by omega) ?_)⟩
      by_cases hn : i < ws.length
      · refine Ev.ifT (by omega) (Ev.ifT (by omega) (Ev.ifT (by rw [List.length_map]; omega) ?_))
        rw [rdB ws i hn, toList_B, toList_B]
        by_cases e : ws.getD i [] = p
        · rw [decide_eq_true (show p ∈ ws from e ▸ getD_mem hn)]
          exact Ev.ifT e (Ev.now _)
        · have hm : ¬ p ∈ ws := fun hp => by
            obtain ⟨z1, z2⟩ := placeL_mem hp
            have hz : i ≤ placeL ws p := by
              by_cases hzi : placeL ws p < i
              · have := h3 _ hzi; rw [z2] at this; exact absurd this (txt_irrefl _)
              · omega
            have hle := hs.le i (placeL ws p - i) (by omega)
            rw [show i + (placeL ws p - i) = placeL ws p from by omega, z2] at hle
            exact e (txt_tri (h4 i (Nat.le_refl _) hn) hle)
          rw [decide_eq_false hm]
          refine Ev.ifF e ?_
          unfold slices_isNaN_string.f
          exact Ev.some_bind (Ev.ifF (by simp) (Ev.now _))
      · have hm : ¬ p ∈ ws := fun hp => by
          obtain ⟨z1, z2⟩ := placeL_mem hp
          have := h3 _ (show placeL ws p < i by omega)
          rw [z2] at this
          exact txt_irrefl _ this
        rw [decide_eq_false hm]
        exact Ev.ifF (by omega) (Ev.now _)
theorem search_ev (ws : List Txt) (p : Txt) (hl : ws.length ≤ 1000000000) (hs : Srt ws) : ∃ q : Nat, q ≤ ws.length ∧ (∀ m, m < q → ws.getD m [] < p) ∧ (∀ m, q ≤ m → m < ws.length → ¬ ws.getD m [] < p) ∧ Ev (fun k => slices_BinarySearch_string_string.f k (ws.map B) (B p)) ((q : Int), decide (p ∈ ws)) := by
  unfold slices_BinarySearch_string_string.f
  have := search_loop ws p hl hs ws.length 0 ws.length (by omega) (Nat.le_refl _) (fun m hm => absurd hm (Nat.not_lt_zero _)) (fun m h1 h2 => absurd h2 (by omega))
  rw [List.length_map]
  exact this
/-! sameness -/
theorem equal_loop (M N : List Nd) (hM : M.length ≤ 4611686018427387903) (he : M.length = N.length) : ∀ (d i : Nat), i + d = M.length → Ev (fun k => impl_Node.l0 k M N (M.length : Int) (i : Int)) (decide (M.drop i = N.drop i)) := by
  intro d
  induction d with
  | zero =>
    intro i h1
    refine Ev.step (fun k => impl_Node.l0.eq_2 ..) (Ev.ifF (by omega) ?_)
    rw [decide_eq_true (show M.drop i = N.drop i by rw [List.drop_of_length_le (by omega), List.drop_of_length_le (by omega)])]
    exact Ev.now _
  | succ d ih =>
    intro i h1
    refine Ev.step (fun k => impl_Node.l0.eq_2 ..) (Ev.ifT (by omega) (Ev.ifT (by omega) (Ev.ifT (by omega) (Ev.ifT (by omega) ?_))))
    rw [node_ne, rd_get M i (by omega), rd_get N i (by omega), List.drop_eq_getElem_cons (show i < M.length by omega), List.drop_eq_getElem_cons (show i < N.length by omega)]
    by_cases e : M[i] = N[i]
    · refine Ev.ifF (by simp [e]) ?_
      rw [wrap64_succ i (by omega), show decide (M[i] :: M.drop (i + 1) = N[i] :: N.drop (i + 1)) = decide (M.drop (i + 1) = N.drop (i + 1)) from decide_eq_decide.2 ⟨fun h => (List.cons.inj h).2, fun h => by rw [e, h]⟩]
      exact ih (i + 1) (by omega)
    · refine Ev.ifT (by simp [e]) ?_
      rw [show decide (M[i] :: M.drop (i + 1) = N[i] :: N.drop (i + 1)) = false from decide_eq_false fun h => e (List.cons.inj h).1]
      exact Ev.now _
theorem equal_ev (M N : List Nd) (hM : M.length ≤ 4611686018427387903) : Ev (fun k => impl_Node.f k M N) (decide (M = N)) := by
  unfold impl_Node.f
  by_cases he : M.length = N.length
  · refine Ev.ifT (by omega) ?_
    have := equal_loop M N hM he M.length 0 (by omega)
    rwa [List.drop_zero, List.drop_zero] at this
  · rw [decide_eq_false fun e => he (by rw [e])]
    exact Ev.ifF (by omega) (Ev.now _)
/-! prefixes -/
def prefGo : List Nd → List Txt → Option (List Txt)
  | [], acc => some acc
  | n :: r, acc => if 0 ≤ n.f1 ∧ n.f1 < (acc.length : Int) ∧ 0 ≤ n.f0 ∧ n.f0 ≤ 25 then prefGo r (acc ++ [acc.getD n.f1.toNat [] ++ [UInt8.ofNat (97 + n.f0.toNat)]]) else none
def prefR : Option (List Txt) → List ByteArray × Bool
  | some ps => (ps.map B, true)
  | none => ([], false)
theorem letter_eq (n : Int) (h0 : 0 ≤ n) (h1 : n ≤ 25) : impl_letter.f n = some (B [UInt8.ofNat (97 + n.toNat)]) := by
  unfold impl_letter.f
  rw [strOfNums_B]
  congr 3
  rw [wrap64_id (by omega) (by omega)]
  congr 1
  omega
theorem getD_le {acc : List Txt} {b : Nat} (h : ∀ p ∈ acc, p.length ≤ b) (n : Nat) : (acc.getD n []).length ≤ b := by
  by_cases hn : n < acc.length
  · exact h _ (getD_mem hn)
  · rw [List.getD_eq_getElem?_getD, List.getElem?_eq_none (by omega)]; simp
theorem pref_loop (N' : List Nd) (hN : N'.length ≤ 1000000) : ∀ (d i : Nat) (acc : List Txt), i + d = N'.length → acc.length = i + 1 → (∀ p ∈ acc, p.length ≤ i) →
    Ev (fun k => impl_Trie_prefixes.l0 k (acc.map B) N' (N'.length : Int) (i : Int)) (prefR (prefGo (N'.drop i) acc)) := by
  intro d
  induction d with
  | zero =>
    intro i acc h1 h2 h3
    rw [List.drop_of_length_le (by omega)]
    exact Ev.step (fun k => impl_Trie_prefixes.l0.eq_2 ..) (Ev.ifF (by omega) (Ev.now _))
  | succ d ih =>
    intro i acc h1 h2 h3
    have hi : i < N'.length := by omega
    rw [List.drop_eq_getElem_cons hi]
    refine Ev.step (fun k => impl_Trie_prefixes.l0.eq_2 ..) (Ev.ifT (by omega) (Ev.ifT (by omega) (Ev.ifT (by omega) ?_)))
    rw [rd_get N' i hi, in_eq]
    unfold prefGo
    by_cases ha : 0 ≤ N'[i].f1 ∧ N'[i].f1 ≤ (i : Int)
    · rw [decide_eq_true ha]
      refine Ev.some_bind (Ev.ifT rfl ?_)
      rw [in_eq]
      by_cases hb : 0 ≤ N'[i].f0 ∧ N'[i].f0 ≤ 25
      · rw [decide_eq_true hb, if_pos ⟨ha.1, by omega, hb.1, hb.2⟩]
        refine Ev.some_bind (Ev.ifT rfl (Ev.ifT ha.1 (Ev.ifT (by rw [List.length_map]; omega) ?_)))
        rw [letter_eq _ hb.1 hb.2]
        refine Ev.some_bind ?_
        obtain ⟨m, hm⟩ : ∃ m : Nat, N'[i].f1 = (m : Int) := ⟨N'[i].f1.toNat, by omega⟩
        have hml : m < acc.length := by omega
        have hmb := getD_le h3 m
        rw [hm, rdB acc m hml, Int.toNat_natCast]
        refine Ev.ifT (by rw [size_B, size_B, List.length_singleton]; omega) (Ev.ifT (by rw [List.length_map]; omega) ?_)
        rw [append_B, wrap64_succ i (by omega)]
        have := ih (i + 1) (acc ++ [acc.getD m [] ++ [UInt8.ofNat (97 + N'[i].f0.toNat)]]) (by omega) (by simp; omega) (fun p hp => by
          rcases List.mem_append.1 hp with hp | hp
          · have := h3 p hp; omega
          · rw [List.mem_singleton.1 hp]; simp; simpa using hmb)
        rw [List.map_append, List.map_singleton] at this
        exact this
      · rw [decide_eq_false hb, if_neg (fun h => hb h.2.2)]
        exact Ev.some_bind (Ev.ifF Bool.false_ne_true (Ev.now _))
    · rw [decide_eq_false ha, if_neg (fun h => ha ⟨h.1, by omega⟩)]
      exact Ev.some_bind (Ev.ifF Bool.false_ne_true (Ev.now _))
/-- What the prefixes of whatever nodes come to. -/
def prefN (N : List Nd) : Option (List Txt) := if 1 ≤ N.length ∧ N.length ≤ 481 then prefGo (N.drop 1) [[]] else none
theorem prefixes_ev (N : List Nd) : Ev (fun k => impl_Trie_prefixes.f k N) (prefR (prefN N)) := by
  unfold impl_Trie_prefixes.f prefN
  simp only [in_eq]
  by_cases h : 1 ≤ N.length ∧ N.length ≤ 481
  · rw [if_pos h, decide_eq_true (show (1 : Int) ≤ (N.length : Int) ∧ (N.length : Int) ≤ 481 by omega)]
    refine Ev.some_bind (Ev.ifT rfl (Ev.ifT (by omega) (Ev.some_bind ?_)))
    exact pref_loop (N.drop 1) (by rw [List.length_drop]; omega) (N.drop 1).length 0 [[]] (by omega) rfl (by simp)
  · rw [if_neg h, decide_eq_false (show ¬ ((1 : Int) ≤ (N.length : Int) ∧ (N.length : Int) ≤ 481) by omega)]
    exact Ev.some_bind (Ev.ifF Bool.false_ne_true (Ev.now _))
theorem letterB_of (m : Nat) (h : m ≤ 25) : letterB (UInt8.ofNat (97 + m)) = true := by
  have : (UInt8.ofNat (97 + m)).toNat = 97 + m := by simp; omega
  simp only [letterB, this, decide_eq_true_eq]; omega
theorem prefGo_ok : ∀ (r : List Nd) (acc ps : List Txt), prefGo r acc = some ps → (∀ p ∈ acc, ∀ c ∈ p, letterB c = true) → (∀ p ∈ ps, ∀ c ∈ p, letterB c = true) ∧ ps.length = acc.length + r.length
  | [], acc, ps, h, ha => by
    obtain rfl := Option.some.inj h
    exact ⟨ha, rfl⟩
  | n :: r, acc, ps, h, ha => by
    unfold prefGo at h
    by_cases hc : 0 ≤ n.f1 ∧ n.f1 < (acc.length : Int) ∧ 0 ≤ n.f0 ∧ n.f0 ≤ 25
    · rw [if_pos hc] at h
      obtain ⟨h1, h2⟩ := prefGo_ok r _ ps h (fun p hp c hcp => by
        rcases List.mem_append.1 hp with hp | hp
        · exact ha p hp c hcp
        · rw [List.mem_singleton.1 hp] at hcp
          rcases List.mem_append.1 hcp with hcp | hcp
          · exact ha _ (getD_mem (by omega)) c hcp
          · rw [List.mem_singleton.1 hcp]; exact letterB_of _ (by omega))
      exact ⟨h1, by rw [h2]; simp; omega⟩
    · rw [if_neg hc] at h; cases h
theorem letter_last {p : Txt} (hw : wordL p = true) (h : p ≠ []) : UInt8.ofNat (97 + (ltrOf p).toNat) = p.getD (p.length - 1) 0 := by
  obtain ⟨h1, h2, h3⟩ := ltrOf_bd hw h
  have h4 := letter_bd ((wordL_iff.1 hw).1 _ (getLast_mem h))
  have e : 97 + (ltrOf p).toNat = (p.getD (p.length - 1) 0).toNat := by omega
  rw [e]; simp
theorem trN_get {P ws : List Txt} (i : Nat) (h : i < (trN P ws).length) : (trN P ws)[i] = mkN (ndL P ws (P.getD i [])) := by
  have h2 : i < P.length := by rwa [trN_length] at h
  rw [← rdN P ws i h2, rd_get _ i h]
theorem prefGo_tr {P : List Txt} (ws : List Txt) (hA : Asc P) (hC : Clo P) (hW : ∀ p ∈ P, wordL p = true) : ∀ (d i : Nat), i + d = P.length → 0 < i → prefGo ((trN P ws).drop i) (P.take i) = some P := by
  intro d
  induction d with
  | zero =>
    intro i h1 h2
    rw [List.drop_of_length_le (by rw [trN_length]; omega), List.take_of_length_le (by omega)]
    rfl
  | succ d ih =>
    intro i h1 h2
    have hi : i < P.length := by omega
    have hit : i < (trN P ws).length := by rw [trN_length]; exact hi
    have hne := clo_pos hA hC hi h2
    have hm := getD_mem hi
    obtain ⟨j1, j2⟩ := clo_parent hA hC hi h2
    obtain ⟨_, b1, b2⟩ := ltrOf_bd (hW _ hm) hne
    rw [List.drop_eq_getElem_cons hit, trN_get i hit]
    have hx : mkN (ndL P ws (P.getD i [])) = ⟨ltrOf (P.getD i []), (placeL P (P.getD i []).dropLast : Int), decide (P.getD i [] ∈ ws)⟩ := by unfold mkN ndL; rw [if_neg hne, if_neg hne]
    rw [hx]
    unfold prefGo
    have hl : (P.take i).length = i := by rw [List.length_take]; omega
    rw [if_pos ⟨Int.natCast_nonneg _, by show ((placeL P (P.getD i []).dropLast : Nat) : Int) < ((P.take i).length : Int); rw [hl]; exact Int.ofNat_lt.2 j1, b1, b2⟩]
    simp only [Int.toNat_natCast]
    have hg : (P.take i).getD (placeL P (P.getD i []).dropLast) [] = (P.getD i []).dropLast := by
      rw [getD_lt [] (by rw [hl]; exact j1), List.getElem_take, ← getD_lt [] (by omega), j2]
    rw [hg, letter_last (hW _ hm) hne, dropLast_getD _ hne, ← take_succ_getD [] hi]
    exact ih (i + 1) (by omega) (by omega)
theorem prefN_tr {ws : List Txt} (h : OkW ws) : prefN (trN (preL ws) ws) = some (preL ws) := by
  obtain ⟨z1, z2⟩ := clo_zero (asc_preL ws) (clo_preL ws)
  unfold prefN
  rw [trN_length, if_pos ⟨z1, h.pre⟩]
  have := prefGo_tr ws (asc_preL ws) (clo_preL ws) (fun p hp => preL_word h.word hp) ((preL ws).length - 1) 1 (by omega) (by omega)
  rw [show (preL ws).take 1 = [[]] from by rw [take_succ_getD [] z1, z2]; rfl] at this
  exact this
/-! words -/
def wordsGo : List Nd → List Txt → List Txt
  | n :: r, p :: ps => if n.f2 = true then p :: wordsGo r ps else wordsGo r ps
  | _, _ => []
theorem wordsGo_mem : ∀ (N : List Nd) (ps : List Txt) (w : Txt), w ∈ wordsGo N ps → w ∈ ps
  | n :: r, p :: ps, w, h => by
    unfold wordsGo at h
    by_cases hf : n.f2 = true
    · rw [if_pos hf] at h
      rcases List.mem_cons.1 h with e | h
      · rw [e]; exact List.mem_cons_self
      · exact List.mem_cons_of_mem _ (wordsGo_mem r ps w h)
    · rw [if_neg hf] at h
      exact List.mem_cons_of_mem _ (wordsGo_mem r ps w h)
  | [], _, _, h => by simp [wordsGo] at h
  | _ :: _, [], _, h => by simp [wordsGo] at h
theorem wordsGo_len : ∀ (N : List Nd) (ps : List Txt), (wordsGo N ps).length ≤ N.length
  | n :: r, p :: ps => by
    have := wordsGo_len r ps
    unfold wordsGo
    by_cases hf : n.f2 = true
    · rw [if_pos hf, List.length_cons, List.length_cons]; omega
    · rw [if_neg hf, List.length_cons]; omega
  | [], _ => by simp [wordsGo]
  | _ :: _, [] => by simp [wordsGo]
theorem wordsGo_tr (P ws : List Txt) : ∀ Q : List Txt, wordsGo (Q.map fun p => mkN (ndL P ws p)) Q = Q.filter fun p => decide (p ∈ ws)
  | [] => rfl
  | q :: Q => by
    rw [List.map_cons, wordsGo, wordsGo_tr P ws Q, List.filter_cons]
    rfl
theorem words_loop (N : List Nd) (ps : List Txt) (hN : N.length ≤ 1000000) (hp : ps.length = N.length) : ∀ (d i : Nat) (acc : List Txt), i + d = N.length → acc.length ≤ i →
    Ev (fun k => impl_Trie_words.l0 k (ps.map B) (acc.map B) N (N.length : Int) (i : Int)) ((acc ++ wordsGo (N.drop i) (ps.drop i)).map B) := by
  intro d
  induction d with
  | zero =>
    intro i acc h1 h2
    rw [List.drop_of_length_le (by omega)]
    exact Ev.step (fun k => impl_Trie_words.l0.eq_2 ..) (Ev.ifF (by omega) (by simpa [wordsGo] using Ev.now _))
  | succ d ih =>
    intro i acc h1 h2
    have hi : i < N.length := by omega
    rw [List.drop_eq_getElem_cons hi, drop_cons_getD [] (show i < ps.length by omega), wordsGo]
    refine Ev.step (fun k => impl_Trie_words.l0.eq_2 ..) (Ev.ifT (by omega) (Ev.ifT (by omega) (Ev.ifT (by omega) ?_)))
    rw [rd_get N i hi]
    by_cases hf : N[i].f2 = true
    · rw [if_pos hf]
      refine Ev.ifT hf (Ev.ifT (by rw [List.length_map]; omega) (Ev.ifT (by rw [List.length_map]; omega) ?_))
      rw [rdB ps i (by omega), wrap64_succ i (by omega)]
      have := ih (i + 1) (acc ++ [ps.getD i []]) (by omega) (by simp; omega)
      rw [List.map_append (l₁ := acc), List.map_singleton, List.append_assoc] at this
      exact this
    · rw [if_neg hf]
      refine Ev.ifF hf ?_
      rw [wrap64_succ i (by omega)]
      exact ih (i + 1) acc (by omega) (by omega)
theorem words_of {N : List Nd} {ps : List Txt} (h : prefN N = some ps) : N.length ≤ 481 ∧ ps.length = N.length ∧ (∀ p ∈ ps, ∀ c ∈ p, letterB c = true) ∧ Ev (fun k => impl_Trie_words.f k N) ((wordsGo N ps).map B) := by
  have hp := prefixes_ev N
  rw [h] at hp
  unfold prefN at h
  by_cases hn : 1 ≤ N.length ∧ N.length ≤ 481
  · rw [if_pos hn] at h
    obtain ⟨h1, h2⟩ := prefGo_ok _ _ _ h (by simp)
    rw [List.length_drop, List.length_singleton] at h2
    refine ⟨hn.2, by omega, h1, ?_⟩
    unfold impl_Trie_words.f
    refine Ev.bind hp ?_
    exact words_loop N ps (by omega) (by omega) N.length 0 [] (by omega) (by simp)
  · rw [if_neg hn] at h; cases h
theorem words_ev {ws : List Txt} (h : OkW ws) : Ev (fun k => impl_Trie_words.f k (trN (preL ws) ws)) (ws.map B) := by
  obtain ⟨_, _, _, h4⟩ := words_of (prefN_tr h)
  have e : wordsGo (trN (preL ws) ws) (preL ws) = ws := by
    have : trN (preL ws) ws = (preL ws).map fun p => mkN (ndL (preL ws) ws p) := by unfold trN nodesL; rw [List.map_map]; rfl
    rw [this, wordsGo_tr, filter_preL h.asc]
  rwa [e] at h4
theorem prefixes_tr {ws : List Txt} (h : OkW ws) : Ev (fun k => impl_Trie_prefixes.f k (trN (preL ws) ws)) ((preL ws).map B, true) := by
  have := prefixes_ev (trN (preL ws) ws)
  rw [prefN_tr h] at this
  exact this
/-! the trie of words -/
theorem trieOf_in (ws0 xs : List Txt) (w : Txt) (hw : w.length ≤ 12) (i : Nat) (hi : i ≤ 100000) (r : List Nd) (acc2 : List Txt) (hr : Ev (fun k => impl_trieOf.l0 k (ws0.map B) (acc2.map B) (xs.map B) (xs.length : Int) ((i + 1 : Nat) : Int)) r) :
    ∀ (d n : Nat) (acc : List Txt), n + d = w.length → acc ++ begF w (n + 1) d = acc2 → acc2.length ≤ 1000000 → Ev (fun k => impl_trieOf.l1 k (ws0.map B) (acc.map B) (B w) (xs.map B) (xs.length : Int) (i : Int) (w.length : Int) (n : Int)) r := by
  intro d
  induction d with
  | zero =>
    intro n acc h1 h2 h3
    rw [begF, List.append_nil] at h2
    subst h2
    refine Ev.step (fun k => impl_trieOf.l1.eq_2 ..) (Ev.ifF (by omega) ?_)
    rw [wrap64_succ i (by omega)]
    exact hr
  | succ d ih =>
    intro n acc h1 h2 h3
    have hl : acc.length ≤ 1000000 := by rw [← h2, List.length_append] at h3; omega
    refine Ev.step (fun k => impl_trieOf.l1.eq_2 ..) (Ev.ifT (by omega) ?_)
    rw [wrap64_succ n (by omega)]
    refine Ev.ifT (by omega) (Ev.ifT (by rw [size_B]; omega) (Ev.ifT (by rw [List.length_map]; omega) ?_))
    rw [extract_B, List.drop_zero, Int.toNat_natCast, Nat.sub_zero]
    have := ih (n + 1) (acc ++ [w.take (n + 1)]) (by omega) (by rw [← h2, begF]; simp) h3
    rw [List.map_append, List.map_singleton] at this
    exact this
theorem trieOf_out (ws0 xs : List Txt) (hl : xs.length ≤ 1000) (hw : ∀ w ∈ xs, w.length ≤ 12) (r : List Nd) (hr : Ev (fun k => impl_trieOf.l2 k (ws0.map B) ((preL xs).map B) ((preL xs).length : Int) 0 []) r) :
    ∀ (d i : Nat) (acc : List Txt), i + d = xs.length → acc ++ (xs.drop i).flatMap begs = [] :: xs.flatMap begs → Ev (fun k => impl_trieOf.l0 k (ws0.map B) (acc.map B) (xs.map B) (xs.length : Int) (i : Int)) r := by
  have hall := flatMap_begs_length xs hw
  have hpl := preL_length hw
  intro d
  induction d with
  | zero =>
    intro i acc h1 h2
    rw [List.drop_of_length_le (by omega), List.flatMap_nil, List.append_nil] at h2
    subst h2
    refine Ev.step (fun k => impl_trieOf.l0.eq_2 ..) (Ev.ifF (by omega) ?_)
    rw [set_eq _ (by rw [List.length_cons]; omega)]
    refine Ev.some_bind (Ev.ifT ?_ ?_)
    · unfold SM.okL
      rw [Bool.and_eq_true, List.all_eq_true, decide_eq_true_eq]
      refine ⟨fun x hx => ?_, by rw [List.length_map]; show (preL xs).length ≤ _; omega⟩
      obtain ⟨y, hy, rfl⟩ := List.mem_map.1 hx
      have hy' : y ∈ preL xs := hy
      have : y.length ≤ 12 := by
        rcases mem_preL.1 hy' with rfl | ⟨w, hw', _, hp⟩
        · simp
        · exact Nat.le_trans hp.length_le (hw w hw')
      rw [decide_eq_true_eq, size_B]; omega
    · rw [List.length_map]
      exact hr
  | succ d ih =>
    intro i acc h1 h2
    have hi : i < xs.length := by omega
    rw [drop_cons_getD [] hi, List.flatMap_cons, ← List.append_assoc] at h2
    refine Ev.step (fun k => impl_trieOf.l0.eq_2 ..) (Ev.ifT (by omega) (Ev.ifT (by omega) (Ev.ifT (by rw [List.length_map]; omega) ?_)))
    rw [rdB xs i hi, size_B]
    have hlen : (acc ++ begs (xs.getD i [])).length ≤ 1000000 := by
      have := congrArg List.length h2
      rw [List.length_append, List.length_cons] at this
      omega
    exact trieOf_in ws0 xs _ (hw _ (getD_mem hi)) i (by omega) r _ (ih (i + 1) _ (by omega) h2) (xs.getD i []).length 0 acc (by omega) (by rw [begs_begF]) hlen
theorem at_take {P : List Txt} (hA : Asc P) (q : Txt) (j : Nat) (hj : j < P.length) (hq : P.getD j [] = q) : ∀ n, n ≤ P.length → j < n → SM.at_ (List.take n (P.map B)) (B q) = (j : Int) := by
  intro n
  induction n with
  | zero => intro _ h; omega
  | succ n ih =>
    intro h1 h2
    have hn : n < P.length := by omega
    rw [← List.map_take, take_succ_getD [] hn, List.map_append, List.map_singleton]
    unfold SM.at_
    rw [List.reverse_append, List.reverse_singleton, List.singleton_append, SM.atR, data_B, data_B]
    by_cases e : P.getD n [] = q
    · have : n = j := asc_inj hA hn hj (e.trans hq.symm)
      rw [if_pos e, List.length_reverse, List.length_map, List.length_take]; omega
    · have hjn : j < n := by
        rcases Nat.lt_or_ge j n with h | h
        · exact h
        · have : j = n := by omega
          subst this; exact absurd hq e
      rw [if_neg e, List.map_take]
      exact ih (by omega) hjn
theorem trieOf_nodes {ws P : List Txt} (hs : Srt ws) (hA : Asc P) (hC : Clo P) (hW : ∀ p ∈ P, wordL p = true) (hP : P.length ≤ 100000) (hl : ws.length ≤ 100000) : ∀ (d i : Nat) (acc : List Nd), i + d = P.length → acc.length ≤ i →
    Ev (fun k => impl_trieOf.l2 k (ws.map B) (P.map B) (P.length : Int) (i : Int) acc) (acc ++ ((P.drop i).map fun p => mkN (ndL P ws p))) := by
  intro d
  induction d with
  | zero =>
    intro i acc h1 h2
    rw [List.drop_of_length_le (by omega), List.map_nil, List.append_nil]
    exact Ev.step (fun k => impl_trieOf.l2.eq_2 ..) (Ev.ifF (by omega) (Ev.now _))
  | succ d ih =>
    intro i acc h1 h2
    have hi : i < P.length := by omega
    have hm := getD_mem hi
    rw [drop_cons_getD [] hi, List.map_cons]
    refine Ev.step (fun k => impl_trieOf.l2.eq_2 ..) (Ev.ifT (by omega) (Ev.ifT (by omega) (Ev.ifT (by rw [List.length_map]; omega) ?_)))
    rw [rdB P i hi]
    obtain ⟨q, _, _, _, hq⟩ := search_ev ws (P.getD i []) (by omega) hs
    refine Ev.bind hq ?_
    have hcons : ∀ x : Nd, acc ++ (x :: (P.drop (i + 1)).map fun p => mkN (ndL P ws p)) = (acc ++ [x]) ++ (P.drop (i + 1)).map fun p => mkN (ndL P ws p) := fun x => by simp
    rw [hcons, toList_B]
    by_cases hp : P.getD i [] = []
    · refine Ev.ifT hp (Ev.ifT (by omega) ?_)
      have hx : mkN (ndL P ws (P.getD i [])) = ⟨-1, -1, decide (P.getD i [] ∈ ws)⟩ := by unfold mkN ndL; rw [if_pos hp, if_pos hp]
      rw [hx, wrap64_succ i (by omega)]
      exact ih (i + 1) _ (by omega) (by simp; omega)
    · have h0 : 0 < i := by
        rcases Nat.eq_zero_or_pos i with e | e
        · rw [e, (clo_zero hA hC).2] at hp; exact absurd rfl hp
        · exact e
      have hlen := List.length_pos_iff.2 hp
      have h12 := (wordL_iff.1 (hW _ hm)).2
      obtain ⟨j1, j2⟩ := clo_parent hA hC hi h0
      have hw1 : wrap64 (((B (P.getD i [])).size : Int) - 1) = ((P.getD i []).length - 1 : Nat) := by rw [size_B, wrap64_id (by omega) (by omega)]; omega
      rw [hw1]
      refine Ev.ifF hp (Ev.ifT (by omega) (Ev.ifT (by rw [size_B]; omega) (Ev.ifT (by rw [size_B]; omega) (Ev.ifT (by omega) ?_))))
      rw [extract_B, List.drop_zero, Int.toNat_natCast, Int.toNat_natCast, Nat.sub_zero, ← List.dropLast_eq_take, at_take hA _ _ (by omega) j2 (i + 1) (by omega) (by omega)]
      have hx : mkN (ndL P ws (P.getD i [])) = ⟨((bt (B (P.getD i [])) (((P.getD i []).length - 1 : Nat) : Int)) - 97) % 256, (placeL P (P.getD i []).dropLast : Int), decide (P.getD i [] ∈ ws)⟩ := by
        unfold mkN ndL
        rw [if_neg hp, if_neg hp, bt_B _ _ (by omega)]
        rfl
      rw [hx, wrap64_succ i (by omega)]
      exact ih (i + 1) _ (by omega) (by simp; omega)
/-- The trie of words in order, which may be there twice. -/
theorem trieOf_srt {ws : List Txt} (hs : Srt ws) (hw : ∀ w ∈ ws, wordL w = true) (hl : ws.length ≤ 1000) : Ev (fun k => impl_trieOf.f k (ws.map B)) (trN (preL ws) ws) := by
  have hle : ∀ w ∈ ws, w.length ≤ 12 := fun w h => (wordL_iff.1 (hw w h)).2
  have hpl := preL_length hle
  have hn := trieOf_nodes hs (asc_preL ws) (clo_preL ws) (fun p hp => preL_word hw hp) (by omega) (by omega) (preL ws).length 0 [] (by omega) (by simp)
  rw [List.drop_zero, List.nil_append] at hn
  have e : (preL ws).map (fun p => mkN (ndL (preL ws) ws p)) = trN (preL ws) ws := by unfold trN nodesL; rw [List.map_map]; rfl
  rw [e] at hn
  unfold impl_trieOf.f
  rw [List.length_map]
  exact trieOf_out ws ws hl hle _ hn ws.length 0 [[]] (by omega) rfl
theorem trieOf_ev {ws : List Txt} (h : OkW ws) : Ev (fun k => impl_trieOf.f k (ws.map B)) (trN (preL ws) ws) := trieOf_srt (srt_asc h.asc) h.word (by have := h.len; omega)
theorem trN_set {ws : List Txt} : trN (preL ws) ws = trN (preL (setL ws)) (setL ws) := by
  have e : preL (setL ws) = preL ws := preL_congr fun w => mem_setL ws w
  rw [e]
  unfold trN nodesL
  rw [List.map_map, List.map_map]
  refine List.map_congr_left fun p _ => ?_
  show mkN (ndL (preL ws) ws p) = mkN (ndL (preL ws) (setL ws) p)
  unfold ndL
  rw [show decide (p ∈ ws) = decide (p ∈ setL ws) from decide_eq_decide.2 (mem_setL ws p).symm]
/-! validity -/
theorem isTrie_ev (N : List Nd) : ∃ b : Bool, (b = true ↔ IsTr N) ∧ Ev (fun k => impl_isTrie.f k N) b := by
  have hpre := prefixes_ev N
  have no : ∀ M : List Nd, Ev (fun k => impl_isTrie.j0 k true M) false := fun M => Ev.step (fun k => impl_isTrie.j0.eq_2 ..) (Ev.ifT rfl (Ev.now _))
  cases hp : prefN N with
  | none =>
    rw [hp] at hpre
    refine ⟨false, ?_, ?_⟩
    · simp only [Bool.false_eq_true, false_iff]
      rintro ⟨ws, h, rfl⟩
      rw [prefN_tr h] at hp; cases hp
    · unfold impl_isTrie.f
      exact Ev.bind hpre (Ev.ifF Bool.false_ne_true (no N))
  | some ps =>
    rw [hp] at hpre
    obtain ⟨w1, w2, w3, w4⟩ := words_of hp
    have hany : impl_isTrie_any.f (ps.map B) = some (decide (∃ p ∈ ps, 12 < p.length)) := by
      unfold impl_isTrie_any.f
      congr 1
      rw [Bool.eq_iff_iff, List.any_eq_true, decide_eq_true_eq]
      constructor
      · rintro ⟨x, hx, e⟩
        obtain ⟨y, hy, rfl⟩ := List.mem_map.1 hx
        refine ⟨y, hy, ?_⟩
        unfold impl_isTrie_any.p at e
        rw [size_B, decide_eq_true_eq] at e
        omega
      · rintro ⟨y, hy, e⟩
        refine ⟨B y, List.mem_map.2 ⟨y, hy, rfl⟩, ?_⟩
        unfold impl_isTrie_any.p
        rw [size_B, decide_eq_true_eq]
        omega
    by_cases hlong : ∃ p ∈ ps, 12 < p.length
    · rw [decide_eq_true hlong] at hany
      refine ⟨false, ?_, ?_⟩
      · simp only [Bool.false_eq_true, false_iff]
        rintro ⟨ws, h, rfl⟩
        rw [prefN_tr h] at hp
        obtain rfl := Option.some.inj hp
        obtain ⟨p, hpm, hpl⟩ := hlong
        have := (wordL_iff.1 (preL_word h.word hpm)).2
        omega
      · unfold impl_isTrie.f
        refine Ev.bind hpre (Ev.ifT rfl ?_)
        show Ev (fun k => (impl_isTrie_any.f (ps.map B)).bind _) false
        rw [hany]
        exact Ev.some_bind (no N)
    · rw [decide_eq_false hlong] at hany
      have hword : ∀ w ∈ wordsGo N ps, wordL w = true := fun w hw => by
        have hm := wordsGo_mem N ps w hw
        refine wordL_iff.2 ⟨w3 w hm, ?_⟩
        rcases Nat.lt_or_ge 12 w.length with h | h
        · exact absurd ⟨w, hm, h⟩ hlong
        · exact h
      have hwl := wordsGo_len N ps
      have hcase : ∀ b : Bool, Ev (fun k => impl_isTrie.j0 k false N) b → Ev (fun k => impl_isTrie.f k N) b := fun b hb => by
        unfold impl_isTrie.f
        refine Ev.bind hpre (Ev.ifT rfl ?_)
        show Ev (fun k => (impl_isTrie_any.f (ps.map B)).bind _) b
        rw [hany]
        exact Ev.some_bind hb
      have hval : ∀ ws, OkW ws → N = trN (preL ws) ws → wordsGo N ps = ws := fun ws h e => by
        subst e
        rw [prefN_tr h] at hp
        obtain rfl := Option.some.inj hp
        have : trN (preL ws) ws = (preL ws).map fun p => mkN (ndL (preL ws) ws p) := by unfold trN nodesL; rw [List.map_map]; rfl
        rw [this, wordsGo_tr, filter_preL h.asc]
      by_cases h40 : (wordsGo N ps).length ≤ 40
      · obtain ⟨b, hb, hsv⟩ := isSorted_ev (wordsGo N ps) (by omega)
        by_cases hs : Srt (wordsGo N ps)
        · have hbt := hb.2 hs
          subst hbt
          refine ⟨decide (trN (preL (wordsGo N ps)) (wordsGo N ps) = N), ?_, hcase _ ?_⟩
          · rw [decide_eq_true_eq]
            constructor
            · intro e
              refine ⟨setL (wordsGo N ps), ⟨asc_setL _, Nat.le_trans (setL_length_le _) h40, fun w hw => hword w ((mem_setL _ w).1 hw)⟩, ?_⟩
              rw [← trN_set, e]
            · rintro ⟨ws, h, e⟩
              rw [hval ws h e, e]
          · refine Ev.step (fun k => impl_isTrie.j0.eq_2 ..) (Ev.ifF Bool.false_ne_true (Ev.bind w4 (Ev.ifT (by rw [List.length_map]; omega) (Ev.bind hsv (Ev.ifT rfl (Ev.bind (trieOf_srt hs hword (by omega)) (Ev.bind (equal_ev _ _ ?_) (Ev.now _))))))))
            rw [trN_length]
            have := preL_length (ws := wordsGo N ps) (fun w hw => (wordL_iff.1 (hword w hw)).2)
            omega
        · have hbf : b = false := by
            cases b with
            | false => rfl
            | true => exact absurd (hb.1 rfl) hs
          subst hbf
          refine ⟨false, ?_, hcase _ (Ev.step (fun k => impl_isTrie.j0.eq_2 ..) (Ev.ifF Bool.false_ne_true (Ev.bind w4 (Ev.ifT (by rw [List.length_map]; omega) (Ev.bind hsv (Ev.ifF Bool.false_ne_true (Ev.now _)))))))⟩
          simp only [Bool.false_eq_true, false_iff]
          rintro ⟨ws, h, e⟩
          exact hs (by rw [hval ws h e]; exact srt_asc h.asc)
      · refine ⟨false, ?_, hcase _ (Ev.step (fun k => impl_isTrie.j0.eq_2 ..) (Ev.ifF Bool.false_ne_true (Ev.bind w4 (Ev.ifF (by rw [List.length_map]; omega) (Ev.now _)))))⟩
        simp only [Bool.false_eq_true, false_iff]
        rintro ⟨ws, h, e⟩
        rw [hval ws h e] at h40
        exact h40 h.len

end Go.Proofs.Ytgagmodkjmegeaa.L

namespace Go.Proofs.Ytgagmodkjmegeaa.L
open Go.RowKit Go.Proofs.Ytgagmodkjmegeaa.P Go.Proofs.Ytgagmodkjmegeaa.M Go.Proofs.YtgagmodkjmegeaaW.PrintWords Go.Proofs.YtgagmodkjmegeaaW.PrintLast Go.Proofs.YtgagmodkjmegeaaW.PrintMore
set_option linter.unusedVariables false
def toN (l : List S82) : List Nd := l.map fun x => ⟨x.f0, x.f1, x.f2⟩
theorem toN_length (l : List S82) : (toN l).length = l.length := by simp [toN]
theorem szTrie_eq (l : List S82) (h : l.length ≤ 9223372036854775807) : laws_szTrie.f l 1048576 = some (if l.length ≤ 1048576 then 1048576 - (l.length : Int) else -1) := by
  unfold laws_szTrie.f laws_szNodeS.f
  rw [wrap64_id (by omega) (by omega)]
  by_cases hs : l.length ≤ 1048576
  · rw [if_neg (by omega), if_pos hs, Option.bind_some, if_neg (by omega)]
  · rw [if_pos (by omega), if_neg hs, Option.bind_some, if_pos (by omega)]
theorem toNodeS_loop (l : List S82) (hl : l.length ≤ 1048576) : ∀ (d i : Nat), i + d = l.length → Ev (fun k => laws_toNodeS.l0 k l ((toN l).take i ++ List.replicate ((toN l).length - i) z80) (i : Int)) (toN l) := by
  intro d
  induction d with
  | zero =>
    intro i h
    rw [List.take_of_length_le (by rw [toN_length]; omega), show (toN l).length - i = 0 from by rw [toN_length]; omega, List.replicate_zero, List.append_nil]
    exact Ev.step (fun k => laws_toNodeS.l0.eq_2 ..) (Ev.ifF (by omega) (Ev.now _))
  | succ d ih =>
    intro i h
    have hi : i < l.length := by omega
    have hi2 : i < (toN l).length := by rw [toN_length]; exact hi
    have hlen : ((toN l).take i ++ List.replicate ((toN l).length - i) z80).length = l.length := by
      rw [List.length_append, List.length_take, List.length_replicate, toN_length]; omega
    refine Ev.step (fun k => laws_toNodeS.l0.eq_2 ..) (Ev.ifT (by omega) (Ev.ifT (by omega) ?_))
    unfold laws_toNode.f
    refine Ev.some_bind (Ev.ifT (by rw [hlen]; omega) ?_)
    have hx : (⟨(rd_T82 l (i : Int)).f0, (rd_T82 l (i : Int)).f1, (rd_T82 l (i : Int)).f2⟩ : Nd) = (toN l).getD i z80 := by
      unfold rd_T82 toN
      rw [Int.toNat_natCast, getD_lt _ hi, getD_lt _ (by simpa using hi), List.getElem_map]
    rw [hx, Int.toNat_natCast, fill_set _ _ _ hi2, wrap64_succ i (by omega)]
    exact ih (i + 1) (by omega)
theorem toTrie_ev (l : List S82) (hl : l.length ≤ 1048576) : Ev (fun k => laws_toTrie.f k l) (toN l) := by
  unfold laws_toTrie.f laws_toNodeS.f
  refine Ev.bind (f := fun k t => some t) (Ev.ifT (by omega) (Ev.ifT (by omega) ?_)) (Ev.now _)
  have := toNodeS_loop l hl l.length 0 (by omega)
  rw [List.take_zero, List.nil_append, toN_length, Nat.sub_zero] at this
  exact this
theorem eqNode_self (a b : Int) (c : Bool) : laws_eqNode.f a b c a b c = some true := by
  unfold laws_eqNode.f
  rw [if_pos rfl, if_pos rfl, if_neg (by simp)]
theorem eqNodeS_loop (N : List Nd) (hN : N.length ≤ 4611686018427387903) : ∀ (d i : Nat), i + d = N.length → Ev (fun k => laws_eqNodeS.l0 k N N (i : Int)) true := by
  intro d
  induction d with
  | zero => intro i h; exact Ev.step (fun k => laws_eqNodeS.l0.eq_2 ..) (Ev.ifF (by omega) (Ev.now _))
  | succ d ih =>
    intro i h
    refine Ev.step (fun k => laws_eqNodeS.l0.eq_2 ..) (Ev.ifT (by omega) (Ev.ifT (by omega) (Ev.ifT (by omega) ?_)))
    rw [eqNode_self]
    refine Ev.some_bind (Ev.ifT rfl ?_)
    rw [wrap64_succ i (by omega)]
    exact ih (i + 1) (by omega)
theorem eqTrie_ev (N : List Nd) (hN : N.length ≤ 4611686018427387903) : Ev (fun k => laws_eqTrie.f k N N) true := by
  unfold laws_eqTrie.f laws_eqNodeS.f
  exact Ev.bind (f := fun k t => if t = true then some true else some false) (Ev.ifT rfl (eqNodeS_loop N hN N.length 0 (by omega))) (Ev.ifT rfl (Ev.now _))
/-- Both sides ask alike whether a trie is valid. -/
theorem trie_both (N : List Nd) : (IsTr N ∧ Ev (fun k => spec_l2Trie.f k N) true ∧ Ev (fun k => impl_isTrie.f k N) true) ∨ (¬ IsTr N ∧ Ev (fun k => spec_l2Trie.f k N) false ∧ Ev (fun k => impl_isTrie.f k N) false) := by
  obtain ⟨b1, c1, e1⟩ := l2Trie_ev N
  obtain ⟨b2, c2, e2⟩ := isTrie_ev N
  by_cases h : IsTr N
  · obtain rfl := c1.2 h
    obtain rfl := c2.2 h
    exact .inl ⟨h, e1, e2⟩
  · cases b1 with
    | true => exact absurd (c1.1 rfl) h
    | false =>
      cases b2 with
      | true => exact absurd (c2.1 rfl) h
      | false => exact .inr ⟨h, e1, e2⟩

end Go.Proofs.Ytgagmodkjmegeaa.L

namespace Go.Proofs.Ytgagmodkjmegeaa.L
open Go.RowKit Go.Proofs.Ytgagmodkjmegeaa.P Go.Proofs.Ytgagmodkjmegeaa.M Go.Proofs.YtgagmodkjmegeaaW.PrintWords Go.Proofs.YtgagmodkjmegeaaW.PrintLast Go.Proofs.YtgagmodkjmegeaaW.PrintMore
set_option linter.unusedVariables false
/-- A fraction in lowest terms. -/
def fr (a b : Nat) : Int × Int := (((a / Nat.gcd b a : Nat) : Int), ((b / Nat.gcd b a : Nat) : Int))
theorem wrapN {n : Nat} (h : n ≤ 9223372036854775807) : wrap64 (n : Int) = (n : Int) := wrap64_id (by omega) (by omega)
theorem divisor_ev : ∀ (b a : Nat), Ev (fun k => impl_divisor.l0 k (a : Int) (b : Int)) ((Nat.gcd b a : Nat) : Int) := by
  intro b
  induction b using Nat.strongRecOn with
  | _ b ih =>
    intro a
    by_cases hb : b = 0
    · subst hb
      rw [Nat.gcd_zero_left]
      exact Ev.step (fun k => impl_divisor.l0.eq_2 ..) (Ev.ifT rfl (Ev.now _))
    · refine Ev.step (fun k => impl_divisor.l0.eq_2 ..) (Ev.ifF (by omega) ?_)
      rw [← Int.ofNat_tmod, Nat.gcd_rec]
      exact ih (a % b) (Nat.mod_lt _ (by omega)) b
theorem frac_ev (a b : Nat) (ha : a ≤ 9223372036854775807) (hb : 0 < b) (hb2 : b ≤ 9223372036854775807) : Ev (fun k => impl_fraction.f k (a : Int) (b : Int)) (fr a b) := by
  have hg : 0 < Nat.gcd b a := Nat.gcd_pos_of_pos_left a hb
  have h1 := Nat.div_le_self a (Nat.gcd b a)
  have h2 := Nat.div_le_self b (Nat.gcd b a)
  unfold impl_fraction.f impl_divisor.f
  refine Ev.bind (f := fun k t => if t = 0 then none else some (wrap64 (Int.tdiv (a : Int) t), wrap64 (Int.tdiv (b : Int) t))) (divisor_ev b a) (Ev.ifF (by omega) ?_)
  rw [← Int.ofNat_tdiv, ← Int.ofNat_tdiv, wrapN (Nat.le_trans h1 ha), wrapN (Nat.le_trans h2 hb2)]
  exact Ev.now _
theorem cut_loop (a b : Nat) (ha : a ≤ 9223372036854775807) (hb : 0 < b) (hb2 : b ≤ 9223372036854775807) : ∀ (y x : Nat), Nat.gcd y x = Nat.gcd b a → Ev (fun k => spec_l9Cut.l0 k (a : Int) (b : Int) (x : Int) (y : Int)) (fr a b) := by
  have hg : 0 < Nat.gcd b a := Nat.gcd_pos_of_pos_left a hb
  have h1 := Nat.div_le_self a (Nat.gcd b a)
  have h2 := Nat.div_le_self b (Nat.gcd b a)
  intro y
  induction y using Nat.strongRecOn with
  | _ y ih =>
    intro x hxy
    by_cases hy : y = 0
    · subst hy
      rw [Nat.gcd_zero_left] at hxy
      subst hxy
      refine Ev.step (fun k => spec_l9Cut.l0.eq_2 ..) (Ev.ifF (by omega) ?_)
      have hm : spec_l1Most.f (((Nat.gcd b a : Nat) : Int)) 1 = some ((Nat.gcd b a : Nat) : Int) := by
        unfold spec_l1Most.f
        by_cases h : ((Nat.gcd b a : Nat) : Int) > 1
        · rw [if_pos h]
        · rw [if_neg h]; congr 1; omega
      rw [hm]
      refine Ev.some_bind (Ev.ifF (by omega) (Ev.some_bind (Ev.ifF (by omega) ?_)))
      rw [← Int.ofNat_tdiv, ← Int.ofNat_tdiv, wrapN (Nat.le_trans h1 ha), wrapN (Nat.le_trans h2 hb2)]
      exact Ev.now _
    · refine Ev.step (fun k => spec_l9Cut.l0.eq_2 ..) (Ev.ifT (by omega) (Ev.ifF (by omega) ?_))
      rw [← Int.ofNat_tmod]
      exact ih (x % y) (Nat.mod_lt _ (by omega)) y (by rw [← Nat.gcd_rec]; exact hxy)
theorem cut_ev (a b : Nat) (ha : a ≤ 9223372036854775807) (hb : 0 < b) (hb2 : b ≤ 9223372036854775807) : Ev (fun k => spec_l9Cut.f k (a : Int) (b : Int)) (fr a b) := cut_loop a b ha hb hb2 b a rfl

end Go.Proofs.Ytgagmodkjmegeaa.L

namespace Go.Proofs.Ytgagmodkjmegeaa.P
open Go.RowKit Go.Proofs.YtgagmodkjmegeaaW.PrintWords Go.Proofs.YtgagmodkjmegeaaW.PrintLast Go.Proofs.YtgagmodkjmegeaaW.PrintMore
attribute [local go_sem] max2_int min2_int max_two min_two max_three min_three max_four min_four
set_option linter.unusedVariables false
set_option linter.unusedSimpArgs false

/-! ### spec_l3Under: function 53 -/
def spec_l3Under.l0 : Nat → List ByteArray → ByteArray → List ByteArray → Int → Option (List ByteArray)
 | 0, _, _, _, _ => none
 | k + 1, x0, x1, x5, x6 => if x6 < (x0.length : Int) then (if 0 ≤ x6 then ((spec_l2Begins.f (rdOf ByteArray.empty x0 x6) x1).bind fun t439 => (if t439 = true then (if x5.length < 8796093022208 then (spec_l3Under.l0 k x0 x1 (x5 ++ [rdOf ByteArray.empty x0 x6]) (wrap64 (x6 + 1))) else (none)) else (spec_l3Under.l0 k x0 x1 x5 (wrap64 (x6 + 1))))) else (none)) else (some x5)
def spec_l3Under.f (k : Nat) (l0 : List ByteArray) (a1 : ByteArray) : Option (List ByteArray) := spec_l3Under.l0 k l0 a1 (([] : List ByteArray)) 0
theorem spec_l3Under.mono_l : ∀ k, (∀ y0 y1 y2 y3, LeO (spec_l3Under.l0 k y0 y1 y2 y3) (spec_l3Under.l0 (k + 1) y0 y1 y2 y3))
 | 0 => fun _ _ _ _ r h => by simp [spec_l3Under.l0] at h
 | k + 1 => by
  have ih0 := spec_l3Under.mono_l k
  ·
   intro y0 y1 y2 y3
   unfold spec_l3Under.l0
   repeat' first
   | (with_reducible exact ih0 _ _ _ _)
   | (with_reducible exact LeO.refl _)
   | (with_reducible exact LeO.none _)
   | (with_reducible refine LeO.ite ?_ ?_)
   | (with_reducible refine LeO.bind ?_ (fun _ => ?_))
   | exact ih0 _ _ _ _
   | exact LeO.none _
   | refine LeO.ite ?_ ?_
   | refine LeO.bind ?_ (fun _ => ?_)
theorem spec_l3Under.mono : ∀ a0 a1 k, LeO (spec_l3Under.f k a0 a1) (spec_l3Under.f (k + 1) a0 a1) := by
 intro a0 a1 k
 have ih0 := spec_l3Under.mono_l k
 unfold spec_l3Under.f
 repeat' first
   | (with_reducible exact ih0 _ _ _ _)
   | (with_reducible exact LeO.refl _)
   | (with_reducible exact LeO.none _)
   | (with_reducible refine LeO.ite ?_ ?_)
   | (with_reducible refine LeO.bind ?_ (fun _ => ?_))
   | exact ih0 _ _ _ _
   | exact LeO.none _
   | refine LeO.ite ?_ ?_
   | refine LeO.bind ?_ (fun _ => ?_)
set_option maxHeartbeats 8000000 in
set_option maxRecDepth 100000 in
theorem spec_l3Under.calls (k : Nat) (A0 : Option Addr) (c0 : Nat) (l0 : List ByteArray) (a1 : ByteArray) (r : List ByteArray) (w : World) (hr0 : Kd.C Kd.string w A0 l0.length l0) (hc0 : l0.length ≤ c0) (h : spec_l3Under.f k l0 a1 = some r) :
  Calls Try.prog 53 #[.slice A0 l0.length c0, .string a1] w fun e w' => ∃ v0_ : Value, e = .returned (v0_) ∧ Kd.R Kd.string 9 w' w.heap.size (fun _ => True) v0_ r ∧ Below w.heap.size w w' := by
 have HR0 := Aside0.mk hr0
 have HC0 := Aside0.mk hc0
 clear hr0 hc0
 have HB := Aside0.mk (Below.refl w.heap.size w)
 have H : (spec_l3Under.l0 k l0 a1 (([] : List ByteArray)) 0) = some r := h
 clear h
 obtain ⟨y435, hy435⟩ : ∃ y_ : List ByteArray, y_ = (([] : List ByteArray)) := ⟨_, rfl⟩
 replace H : (spec_l3Under.l0 k l0 a1 y435 0) = some r := by first | (rw [hy435]; with_reducible exact H) | (have H2_ := (Option.bind_some _ _).symm.trans H; rw [hy435]; with_reducible exact H2_) | (have H2_ := (Option.bind_some _ _).symm.trans H; with_reducible exact H2_) | with_reducible exact H | (rw [hy435]; exact H) | exact H
 have Ny435 := Aside0.mk hy435
 clear hy435
 have H' := Aside0.mk H
 clear H
 go_enter Try.func53, Try.ntmps53
 go_wp2_with (first | ((with_reducible refine gate_dst (N := 7) rfl ?_); refine Kd.R_lit Kd.string _ 9 ?hg (N := 7) ?hd (xs := ([] : List ByteArray)) (inner := []) (ok := fun _ => True) (okp := fun _ => True) ?hr ?hp (fun _ hk => hk) trivial (Below.refl _ _) (Nat.le_refl _) (by simp) ?_; (case hd => rfl); (case hg => rfl); (case hr => first | (go_simp; done) | (go_simp; rfl)); (case hp => exact (Reps.none _ _)); intro v436 w3 ho4 hb hg_ hnew_; clear hg_ hnew_; (first | rw [← Ny435.out] at ho4 | (simp only [Int.reduceToNat] at ho4; rw [← Ny435.out] at ho4)); have n0_ := Aside0.mk (Kd.R_lower ho4 (below_size (by repeat (first | (with_reducible first | exact HB.out | apply below_alloc | apply pw_below_drewN | apply below_drew1) | exact HB.out)))); have n1_ := Aside0.mk (below_step (by repeat (first | (with_reducible first | exact HB.out | apply below_alloc | apply pw_below_drewN | apply below_drew1) | exact HB.out)) hb); clear HB; have HO437 := n0_; have HB := n1_; clear n0_ n1_; clear hb ho4))
 go_loopg [5, 6] k (fun kq v5 v6 w' => ∃ (x5_1 : List ByteArray) (x6_1 : Int), v6 = .int .i64 x6_1 ∧ Aside0 (spec_l3Under.l0 kq l0 a1 x5_1 x6_1 = some r) ∧ Aside0 (kq ≤ k) ∧ Aside0 (Kd.R Kd.string 9 w' w.heap.size (fun _ => True) v5 x5_1) ∧ Aside0 (Below w.heap.size w w'))
 case atStart => exact ⟨(y435), (0), (by first | rfl | (simp; done) | (simp [*]; done)), H', ⟨Nat.le_refl _⟩, ⟨by (with_reducible repeat (first | apply Kd.R_alloc | apply Kd.R_drewN | apply Kd.R_drew)); exact HO437.out⟩, ⟨by repeat (first | (with_reducible first | exact HB.out | apply below_alloc | apply pw_below_drewN | apply below_drew1) | exact HB.out)⟩⟩
 case round =>
  clear H'
  try clear p2
  obtain ⟨x5_1, x6_1, rfl, HA, HK1, HO_5, HB⟩ := hrel
  cases gk with
  | zero => exact absurd HA.out (by simp [spec_l3Under.l0])
  | succ k1 =>
   have H := HA.out
   clear HA
   simp only [spec_l3Under.l0] at H
   by_cases c5 : x6_1 < (l0.length : Int)
   ·
    rw [if_pos c5] at H
    have c5b0 : decide (x6_1 < (l0.length : Int)) = true := decide_eq_true c5
    clear c5
    by_cases c6 : 0 ≤ x6_1
    ·
     rw [if_pos c6] at H
     have c6b0 : decide (0 ≤ x6_1) = true := decide_eq_true c6
     clear c6
     replace H := Option.bind_eq_some_iff.mp H
     obtain ⟨t439, A70, H⟩ := H
     replace H : (if t439 = true then (if x5_1.length < 8796093022208 then (spec_l3Under.l0 k1 l0 a1 (x5_1 ++ [rdOf ByteArray.empty l0 x6_1]) (wrap64 (x6_1 + 1))) else (none)) else (spec_l3Under.l0 k1 l0 a1 x5_1 (wrap64 (x6_1 + 1)))) = some r := H
     have A7 := Aside0.mk A70
     clear A70
     by_cases c8 : t439 = true
     ·
      subst c8
      have H1 : (if x5_1.length < 8796093022208 then (spec_l3Under.l0 k1 l0 a1 (x5_1 ++ [rdOf ByteArray.empty l0 x6_1]) (wrap64 (x6_1 + 1))) else (none)) = some r := by rw [if_pos rfl] at H; exact H
      clear H
      have H := H1
      clear H1
      by_cases c9 : x5_1.length < 8796093022208
      ·
       rw [if_pos c9] at H
       have LMc9 := Aside0.mk c9
       clear c9
       obtain ⟨y441, hy441⟩ : ∃ y_ : List ByteArray, y_ = (x5_1 ++ [rdOf ByteArray.empty l0 x6_1]) := ⟨_, rfl⟩
       replace H : (spec_l3Under.l0 k1 l0 a1 y441 (wrap64 (x6_1 + 1))) = some r := by first | (rw [hy441]; with_reducible exact H) | (have H2_ := (Option.bind_some _ _).symm.trans H; rw [hy441]; with_reducible exact H2_) | (have H2_ := (Option.bind_some _ _).symm.trans H; with_reducible exact H2_) | with_reducible exact H | (rw [hy441]; exact H) | exact H
       have Ny441 := Aside0.mk hy441
       clear hy441
       have H' := Aside0.mk H
       clear H
       have p438 : 0 ≤ (x6_1 : Int) := of_decide_eq_true (by first | (with_reducible assumption) | assumption)
       have q438 : x6_1 < (l0.length : Int) := of_decide_eq_true (by first | (with_reducible assumption) | assumption)
       obtain ⟨ad438, e438, hx438_0⟩ := Kd.at_string HR0.out x6_1 p438 q438
       cases e438
       replace hx438_0 := (HB.out.cell (World.block_lt_of_cell? w _ hx438_0)).trans hx438_0
       replace p438 := eq_true p438
       replace q438 := eq_true q438
       go_wp2_with (first | ((with_reducible refine gate_callee (f := 91) rfl ?_); refine goesL_ (some 19) rfl rfl Try.func91 (by kernel_rfl) rfl #[.string (rdOf ByteArray.empty l0 x6_1), .string a1] rfl (by (try simp only [List.map_toArray, List.map_cons, List.map_nil]); first | done | rfl | (simp only [List.length_drop, List.length_take]; rfl)) ?_; (with_reducible refine (spec_l2Begins.calls (rdOf ByteArray.empty l0 x6_1) a1 true _ A7.out).mono ?_); rintro e w' ⟨rfl, ⟨nd, rfl⟩⟩; refine ⟨_, rfl, ?_⟩; have p440 : 0 ≤ (x6_1 : Int) := of_decide_eq_true (by first | (with_reducible assumption) | assumption); have q440 : x6_1 < (l0.length : Int) := of_decide_eq_true (by first | (with_reducible assumption) | assumption); obtain ⟨ad440, e440, hx440_0⟩ := Kd.at_string HR0.out x6_1 p440 q440; obtain rfl : ad438 = ad440 := (by injection e440); replace hx440_0 := (HB.out.cell (World.block_lt_of_cell? w _ hx440_0)).trans hx440_0; replace p440 := eq_true p440; replace q440 := eq_true q440) | ((with_reducible refine gate_builtin (b := .append) (xs := #[.tmp 20, .tmp 25]) rfl ?_); at_builtin; refine Kd.R_append Kd.string (w0 := w) w.heap.size rfl (.tmp 20) (.tmp 25) 48 9 (.string ⟨#[]⟩) 16 rfl Try.underlying48 info9 rfl (by decide) (by omega) u5 x5_1 (rdOf ByteArray.empty l0 x6_1) [.string (rdOf ByteArray.empty l0 x6_1)] (fun _ => True) (fun _ => False) rfl rfl ?aP (fun _ hk => hk.elim) ?aF ?aO ?aB ?aS ?aL ?_; (case aP => exact rfl); (case aB => exact (by repeat (first | (with_reducible first | exact HB.out | apply below_alloc | apply pw_below_drewN | apply below_drew1) | exact HB.out))); (case aF => exact (fun _ _ => trivial)); (case aO => exact (by (with_reducible repeat (first | apply Kd.R_alloc | apply Kd.R_drewN | apply Kd.R_drew)); exact HO_5.out)); (case aS => exact (below_size (by repeat (first | (with_reducible first | exact HB.out | apply below_alloc | apply pw_below_drewN | apply below_drew1) | exact HB.out)))); (case aL => have := LMc9.out; omega); intro v442 w10 ho hb hg hat; rw [← Ny441.out] at ho; have n0_ := Aside0.mk (hb); have n1_ := Aside0.mk (ho); clear HB; clear HO_5; have HB := n0_; have HO443 := n1_; clear n0_ n1_; clear ho hb hg hat))
       go_roundg k1
       case measure => have := HK1.out; omega
       case rel => exact ⟨(y441), (wrap64 (x6_1 + 1)), (by first | rfl | (simp; done) | (simp [*]; done)), H', ⟨by have := HK1.out; omega⟩, ⟨by (with_reducible repeat (first | apply Kd.R_alloc | apply Kd.R_drewN | apply Kd.R_drew)); exact HO443.out⟩, ⟨by repeat (first | (with_reducible first | exact HB.out | apply below_alloc | apply pw_below_drewN | apply below_drew1) | exact HB.out)⟩⟩
      ·
       rw [if_neg c9] at H
       exact absurd H (by simp)
     ·
      replace c8 := Bool.eq_false_iff.mpr c8
      subst c8
      have H1 : (spec_l3Under.l0 k1 l0 a1 x5_1 (wrap64 (x6_1 + 1))) = some r := by rw [if_neg (show ¬ (false = true) by decide)] at H; exact H
      clear H
      have H := H1
      clear H1
      have H' := Aside0.mk H
      clear H
      have p438 : 0 ≤ (x6_1 : Int) := of_decide_eq_true (by first | (with_reducible assumption) | assumption)
      have q438 : x6_1 < (l0.length : Int) := of_decide_eq_true (by first | (with_reducible assumption) | assumption)
      obtain ⟨ad438, e438, hx438_0⟩ := Kd.at_string HR0.out x6_1 p438 q438
      cases e438
      replace hx438_0 := (HB.out.cell (World.block_lt_of_cell? w _ hx438_0)).trans hx438_0
      replace p438 := eq_true p438
      replace q438 := eq_true q438
      go_wp2_with (first | ((with_reducible refine gate_callee (f := 91) rfl ?_); refine goesL_ (some 19) rfl rfl Try.func91 (by kernel_rfl) rfl #[.string (rdOf ByteArray.empty l0 x6_1), .string a1] rfl (by (try simp only [List.map_toArray, List.map_cons, List.map_nil]); first | done | rfl | (simp only [List.length_drop, List.length_take]; rfl)) ?_; (with_reducible refine (spec_l2Begins.calls (rdOf ByteArray.empty l0 x6_1) a1 false _ A7.out).mono ?_); rintro e w' ⟨rfl, ⟨nd, rfl⟩⟩; refine ⟨_, rfl, ?_⟩))
      go_roundg k1
      case measure => have := HK1.out; omega
      case rel => exact ⟨(x5_1), (wrap64 (x6_1 + 1)), (by first | rfl | (simp; done) | (simp [*]; done)), H', ⟨by have := HK1.out; omega⟩, ⟨by (with_reducible repeat (first | apply Kd.R_alloc | apply Kd.R_drewN | apply Kd.R_drew)); exact HO_5.out⟩, ⟨by repeat (first | (with_reducible first | exact HB.out | apply below_alloc | apply pw_below_drewN | apply below_drew1) | exact HB.out)⟩⟩
    ·
     rw [if_neg c6] at H
     exact absurd H (by simp)
   ·
    rw [if_neg c5] at H
    have c5b0 : decide (x6_1 < (l0.length : Int)) = false := decide_eq_false c5
    clear c5
    obtain rfl := Option.some.inj H
    go_wp2
    go_ret
    exact ⟨_, by first | rfl | (simp [errW_none, errW_some] <;> rfl) | (simp [*, errW_none, errW_some] <;> rfl), by (with_reducible repeat (first | apply Kd.R_alloc | apply Kd.R_drewN | apply Kd.R_drew)); exact HO_5.out, by repeat (first | (with_reducible first | exact HB.out | apply below_alloc | apply pw_below_drewN | apply below_drew1) | exact HB.out)⟩

end Go.Proofs.Ytgagmodkjmegeaa.P

namespace Go.Proofs.Ytgagmodkjmegeaa.P
open Go.RowKit Go.Proofs.YtgagmodkjmegeaaW.PrintWords Go.Proofs.YtgagmodkjmegeaaW.PrintLast Go.Proofs.YtgagmodkjmegeaaW.PrintMore
attribute [local go_sem] max2_int min2_int max_two min_two max_three min_three max_four min_four
set_option linter.unusedVariables false
set_option linter.unusedSimpArgs false

namespace DF
theorem gd {α : Type} (l : List α) (z : α) {j : Nat} (h : j < l.length) : l.getD j z = l[j] := by rw [List.getD_eq_getElem?_getD, List.getElem?_eq_getElem h]; rfl
/-- idxByS from what it says: -1 and no hit, or the first hit's place. -/
theorem idx_spec {α : Type} (p : α → Bool) (z : α) : ∀ (xs : List α) (k : Nat), (idxByS p xs k = -1 ∧ ∀ j, j < xs.length → p (xs.getD j z) = false) ∨ ∃ i, i < xs.length ∧ idxByS p xs k = ((k + i : Nat) : Int) ∧ p (xs.getD i z) = true ∧ ∀ j, j < i → p (xs.getD j z) = false
  | [], _ => .inl ⟨rfl, fun j hj => absurd hj (by simp)⟩
  | x :: r, k => by
    cases h : p x with
    | true => exact .inr ⟨0, by simp, by simp [idxByS, h], by simpa using h, fun j hj => absurd hj (Nat.not_lt_zero _)⟩
    | false =>
      rcases idx_spec p z r (k + 1) with ⟨e, ha⟩ | ⟨i, hi, e, ht, ha⟩
      · refine .inl ⟨by simp [idxByS, h, e], fun j hj => ?_⟩
        cases j with
        | zero => simpa using h
        | succ j => simpa using ha j (by simpa using hj)
      · refine .inr ⟨i + 1, by simpa using hi, by simp only [idxByS, h]; rw [show (if false = true then (k : Int) else idxByS p r (k + 1)) = idxByS p r (k + 1) from rfl, e]; congr 1; omega, by simpa using ht, fun j hj => ?_⟩
        cases j with
        | zero => simpa using h
        | succ j => simpa using ha j (by omega)
def keep {α : Type} (p : α → Bool) (zs : List α) : List α := zs.filter fun x => !p x
/-- The loop's relation: j places looked at, i of them kept, which lie at the row's head; from j on the row is as it was. -/
structure Inv {α : Type} (p : α → Bool) (zs : List α) (j i : Nat) (dk : List α) : Prop where
  size : dk.length = zs.length
  low : dk.take i = keep p (zs.take j)
  len : (keep p (zs.take j)).length = i
  lt : i < j
  high : dk.drop j = zs.drop j
theorem keep_self {α : Type} (p : α → Bool) (z : α) (zs : List α) (h : ∀ j, j < zs.length → p (zs.getD j z) = false) : keep p zs = zs := by
  unfold keep
  rw [List.filter_eq_self]
  intro x hx
  obtain ⟨j, hj, rfl⟩ := List.mem_iff_getElem.1 hx
  have := h j hj
  rw [gd _ _ hj] at this
  simp [this]
theorem keep_step {α : Type} (p : α → Bool) (z : α) (zs : List α) (j : Nat) (h : j < zs.length) : keep p (zs.take (j + 1)) = keep p (zs.take j) ++ (if p (zs.getD j z) = true then [] else [zs.getD j z]) := by
  unfold keep
  rw [List.take_succ_eq_append_getElem h, List.filter_append, gd _ _ h]
  congr 1
  cases hq : p zs[j] <;> simp [hq]
theorem Inv.start {α : Type} {p : α → Bool} (z : α) {zs : List α} {i : Nat} (hi : i < zs.length) (ht : p (zs.getD i z) = true) (ha : ∀ j, j < i → p (zs.getD j z) = false) : Inv p zs (i + 1) i zs := by
  have h1 : keep p (zs.take i) = zs.take i := keep_self p z _ (fun j hj => by
    have hj' : j < i := by simp at hj; omega
    have := ha j hj'
    rw [gd _ _ (by omega)] at this
    rw [gd _ _ hj, List.getElem_take]; exact this)
  have h2 : keep p (zs.take (i + 1)) = zs.take i := by rw [keep_step p z zs i hi, h1, if_pos ht, List.append_nil]
  exact ⟨rfl, h2.symm, by rw [h2, List.length_take]; omega, Nat.lt_succ_self _, rfl⟩
theorem Inv.skip {α : Type} {p : α → Bool} (z : α) {zs dk : List α} {j i : Nat} (h : Inv p zs j i dk) (hj : j < zs.length) (hq : p (zs.getD j z) = true) : Inv p zs (j + 1) i dk := by
  have h2 : keep p (zs.take (j + 1)) = keep p (zs.take j) := by rw [keep_step p z zs j hj, if_pos hq, List.append_nil]
  refine ⟨h.size, by rw [h2]; exact h.low, by rw [h2]; exact h.len, by have := h.lt; omega, ?_⟩
  rw [← List.tail_drop, ← List.tail_drop, h.high]
theorem Inv.put {α : Type} {p : α → Bool} (z : α) {zs dk : List α} {j i : Nat} (h : Inv p zs j i dk) (hj : j < zs.length) (hq : p (zs.getD j z) = false) : Inv p zs (j + 1) (i + 1) (dk.set i (zs.getD j z)) := by
  have h2 : keep p (zs.take (j + 1)) = keep p (zs.take j) ++ [zs.getD j z] := by rw [keep_step p z zs j hj, if_neg (by rw [hq]; exact Bool.false_ne_true)]
  have hs := h.size
  have hl := h.lt
  refine ⟨by simpa using h.size, ?_, by rw [h2]; simp [h.len], by omega, ?_⟩
  · have hi : i < dk.length := by omega
    rw [h2, ← h.low]
    rw [List.take_set, List.take_succ_eq_append_getElem hi, List.set_append_right _ _ (by rw [List.length_take]; omega)]
    simp [Nat.min_eq_left (Nat.le_of_lt hi)]
  · rw [List.drop_set_of_lt (by omega), ← List.tail_drop, ← List.tail_drop, h.high]
theorem Inv.at {α : Type} {p : α → Bool} (z : α) {zs dk : List α} {j i : Nat} (h : Inv p zs j i dk) (hj : j < zs.length) : dk[j]? = some (zs.getD j z) := by
  have := congrArg (·[0]?) h.high
  simp only [List.getElem?_drop, Nat.add_zero] at this
  rw [this, List.getElem?_eq_getElem hj, gd _ _ hj]
/-- The row's block: it holds dk, and may be written. -/
def Row (w : World) (base B c n : Nat) (dk : List ByteArray) : Prop := w.ownsRow base 9 1 (.slice (some ⟨B, 0, none⟩) n c) n (dk.map Value.string)
theorem Row.below {w W : World} {base B c n : Nat} {dk : List ByteArray} (h : Row w base B c n dk) (hb : Below w.heap.size w W) : Row W base B c n dk := by
  obtain ⟨h1, h2⟩ := h
  refine ⟨h1, ?_⟩
  rcases h2 with h2 | ⟨g, cap, cur, hv, hg, hh, r⟩
  · exact .inl h2
  · exact .inr ⟨g, cap, cur, hv, hg, (hb.block g (Array.getElem?_eq_some_iff.1 hh).1).trans hh, r⟩
theorem Row.base_le {w : World} {base B c n : Nat} {dk : List ByteArray} (h : Row w base B c n dk) : base ≤ B ∧ B < w.heap.size := by
  rcases h.2 with ⟨h2, _⟩ | ⟨g, cap, cur, hv, hg, hh, r⟩
  · cases h2
  · cases hv
    exact ⟨hg, (Array.getElem?_eq_some_iff.1 hh).1⟩
theorem Row.cut {w : World} {base B c n i : Nat} {dk : List ByteArray} (h : Row w base B c n dk) (hi : i < n) : Row (w.setCells B i (List.replicate (n - i) (.string ⟨#[]⟩))) base B c i (dk.take i) := by
  rcases h.2 with ⟨h2, _⟩ | ⟨g, cap, cur, hv, hg, hh, r1, r2, r3, r4⟩
  · cases h2
  · cases hv
    simp only [Nat.mul_one] at r3 r4
    obtain ⟨cur', h3, h4, h5⟩ := setCells_row (List.replicate (n - i) (.string ⟨#[]⟩)) i w cur hh (by simp; omega)
    have hl : (dk.map Value.string).length = n * 1 := h.1
    refine ⟨by simp at hl ⊢; omega, .inr ⟨B, c, cur', rfl, hg, h3, by omega, r2, by simp; omega, ?_⟩⟩
    rw [h5, Nat.mul_one, List.append_assoc, List.take_append_of_le_length (by simp; omega), List.take_take, Nat.min_self, List.map_take, ← r4, List.take_take, Nat.min_eq_left (by omega)]
theorem below_setCells {b B i : Nat} (vs : List Value) {w W : World} (h : Below b w W) (hb : b ≤ B) : Below b w (W.setCells B i vs) := by
  obtain ⟨h1, h2, h3, h4⟩ := setCells_same B vs i W
  exact h.trans ⟨h1, h2, h3, by omega, fun k hk => setCells_far vs i k (by omega)⟩
theorem infoS : (Try.prog.info? 9).map (fun i => (i.zero, i.size, i.bytes)) = some (some (.string ⟨#[]⟩), 1, 16) := by kernel_rfl
theorem zero_of {P : Program} {t : TypeId} {z : Value} {n b : Nat} (h : (P.info? t).map (fun i => (i.zero, i.size, i.bytes)) = some (some z, n, b)) : ∀ w, (zeroValue t).run P w = .ok z w := by
  obtain ⟨i0, hi, hz0, -, -⟩ := info_parts h
  intro w
  simp [zeroValue, typeInfo, hi, hz0]
theorem zero (w : World) : (zeroValue 9).run Try.prog w = .ok (.string ⟨#[]⟩) w := zero_of infoS w
end DF
set_option maxHeartbeats 4000000 in
theorem DeleteFuncStr.calls_n (p : ByteArray → Bool) (g : Nat) (lb : Array Value) (eg : ∀ args w, (callFunc g args).run Try.prog w = .ok (.enter g args) w) (ok : Nat → Prop) (base B c n : Nat) (zs : List ByteArray) (w : World) (hn : Aside0 (zs.length = n))
    (hr : Kd.R Kd.string 9 w base ok (.slice (some ⟨B, 0, none⟩) zs.length c) zs) (hbig : zs.length ≤ 9223372036854775807)
    (hp : ∀ W x, x ∈ zs → Kept w W (· = B) → Calls Try.prog g (#[.string x] ++ lb) W fun e W' => e = .returned (.bool (p x)) ∧ Below W.heap.size W W') :
    Calls Try.prog 93 #[.slice (some ⟨B, 0, none⟩) n c, .func (.func g) #[] lb] w fun e w' => ∃ v, e = .returned v ∧ w'.ownsRow base 9 1 v (DF.keep p zs).length ((DF.keep p zs).map Value.string) ∧ (∀ b, b ≤ base → b ≤ w.heap.size → Below b w w') := by
  have hrow : DF.Row w base B c n zs := by
    have := Kd.own_of_R hr
    rw [hn.out] at this
    exact this
  have hcap : n ≤ c := by
    rcases hrow.2 with ⟨h2, _⟩ | ⟨g, cap, cur, hv, hg, hh, r1, r2, r3, r4⟩
    · cases h2
    · cases hv; exact r1
  have hC : Kd.C Kd.string w (some ⟨B, 0, none⟩) zs.length zs := (Kd.R_reads' hr).2.2
  have HI := Aside0.mk (IndexFuncStr.calls p g lb eg (some ⟨B, 0, none⟩) c zs w hC hbig (fun W x hm hb => hp W x hm (Kept.of_below hb _)))
  have HBB := Aside0.mk hrow.base_le
  have HP := Aside0.mk hp
  rw [hn.out] at HI
  have hn9 : n ≤ 9223372036854775807 := by have := hn.out; omega
  rcases DF.idx_spec p ByteArray.empty zs 0 with ⟨e1, hall⟩ | ⟨k0, hk0, e1, ht, hall⟩
  · rw [e1] at HI
    have HK := Aside0.mk (DF.keep_self p ByteArray.empty zs hall)
    have HROW := Aside0.mk hrow
    clear hp hr hC e1 hall hrow
    go_enter Try.func93, Try.ntmps93
    go_wp2_with (go_at_call 112; refine HI.out.mono ?_; rintro e w' ⟨rfl, hb0⟩; have hb := Aside0.mk hb0; clear hb0)
    go_ret
    refine ⟨_, rfl, ?_, fun b _ h2 => hb.out.mono h2⟩
    rw [HK.out, hn.out]
    exact HROW.out.below hb.out
  · have hk0' : k0 < n := by have := hn.out; omega
    simp only [Nat.zero_add] at e1
    rw [e1] at HI
    have hne1 : ((k0 : Int) == -1) = false := beq_eq_false_iff_ne.2 (by omega)
    have HS := Aside0.mk (DF.Inv.start (p := p) ByteArray.empty hk0 ht hall)
    have HROW := Aside0.mk hrow
    clear hp hr hC e1 ht hall hrow hk0
    go_enter Try.func93, Try.ntmps93
    go_wp2_with (go_at_call 112; refine HI.out.mono ?_; rintro e w1 ⟨rfl, hb0⟩; have hb := Aside0.mk hb0; clear hb0)
    go_loopg [5, 6, 7] n (fun gg s5 s6 _ wr => ∃ (i j : Nat) (dk : List ByteArray), s5 = .int .i64 i ∧ s6 = .int .i64 j ∧ i < j ∧ j ≤ n ∧ n - j ≤ gg ∧ Aside0 (DF.Row wr base B c n dk) ∧ Aside0 (DF.Inv p zs j i dk) ∧ Aside0 (Kept w wr (· = B)) ∧ Aside0 (∀ b, b ≤ base → b ≤ w.heap.size → Below b w wr))
    case atStart => exact ⟨k0, k0 + 1, zs, rfl, by go_num, by omega, by omega, by omega, ⟨HROW.out.below hb.out⟩, HS, ⟨Kept.of_below hb.out _⟩, ⟨fun b _ h2 => hb.out.mono h2⟩⟩
    case round =>
      obtain ⟨i, j, dk, rfl, rfl, hij, hjn, hgg, RW, IV, KP, BL⟩ := hrel
      by_cases hlt : j < n
      · have hltz : (j : Int) < (n : Int) := by omega
        have hinL : (i : Int) < (n : Int) := by omega
        have hjz : j < zs.length := by have := hn.out; omega
        have cj := (RW.out.cellAt j (by omega)).trans (show (dk.map Value.string)[j]? = some (.string (zs.getD j ByteArray.empty)) from by rw [List.getElem?_map, IV.out.at ByteArray.empty hjz]; rfl)
        have hmem : zs.getD j ByteArray.empty ∈ zs := by rw [DF.gd _ _ hjz]; exact List.getElem_mem _
        generalize hu : zs.getD j ByteArray.empty = u at cj hmem
        have C := Aside0.mk hu
        have HZ := Aside0.mk hjz
        clear hu hjz
        have hcall := HP.out wr u hmem KP.out
        clear hmem
        cases hq : p u with
        | false =>
          rw [hq] at hcall
          go_wp2_with fail
          refine hcall.mono ?_
          clear hcall
          rintro e w2 ⟨rfl, hb2⟩
          have RW2 := Aside0.mk (RW.out.below hb2)
          have KP2 := Aside0.mk (KP.out.below hb2)
          have BL2 := Aside0.mk (show ∀ b, b ≤ base → b ≤ w.heap.size → Below b w w2 from fun b h1 h2 => (BL.out b h1 h2).trans (hb2.mono (Nat.le_trans h2 KP.out.1)))
          clear cj hb2
          obtain ⟨old, ho⟩ : ∃ old, dk[i]? = some old := ⟨_, List.getElem?_eq_getElem (by have := IV.out.size; have := hn.out; omega)⟩
          have ci := (RW2.out.cellAt i (by omega)).trans (show (dk.map Value.string)[i]? = some (.string old) from by rw [List.getElem?_map, ho]; rfl)
          have fi := RW2.out.frozenAt i
          have ST := Aside0.mk (RW2.out.stored i (.string u)).1
          clear ho
          go_wp2_with fail
          go_roundg (n - (j + 1))
          case measure => omega
          case rel =>
            refine ⟨i + 1, j + 1, dk.set i u, by go_num, by go_num, by omega, by omega, by omega, ⟨?_⟩, ⟨?_⟩, ⟨?_⟩, ⟨?_⟩⟩
            · have := ST.out
              unfold DF.Row
              rw [List.map_set]; exact this
            · have := IV.out.put ByteArray.empty HZ.out (by rw [C.out]; exact hq)
              rwa [C.out] at this
            · exact KP2.out.setCell (.inl rfl) _
            · exact fun b h1 h2 => (BL2.out b h1 h2).setCell (Nat.le_trans h1 HBB.out.1) _
        | true =>
          rw [hq] at hcall
          go_wp2_with fail
          refine hcall.mono ?_
          clear hcall
          rintro e w2 ⟨rfl, hb2⟩
          have RW2 := Aside0.mk (RW.out.below hb2)
          have KP2 := Aside0.mk (KP.out.below hb2)
          have BL2 := Aside0.mk (show ∀ b, b ≤ base → b ≤ w.heap.size → Below b w w2 from fun b h1 h2 => (BL.out b h1 h2).trans (hb2.mono (Nat.le_trans h2 KP.out.1)))
          clear cj hb2
          go_wp2_with fail
          go_roundg (n - (j + 1))
          case measure => omega
          case rel => exact ⟨i, j + 1, dk, rfl, by go_num, by omega, by omega, by omega, RW2, ⟨IV.out.skip ByteArray.empty HZ.out (by rw [C.out]; exact hq)⟩, KP2, BL2⟩
      · have hltz : ¬ (j : Int) < (n : Int) := by omega
        obtain rfl : j = n := by omega
        have hcl : ∀ ty, (Builtin.clear_ #[48] ty #[.slice (some ⟨B, i, none⟩) (j - i) (c - i)]).run Try.prog wr = .ok (.tuple #[]) (wr.setCells B i (List.replicate (j - i) (.string ⟨#[]⟩))) :=
          fun ty => Lib.run_clear_slice wr _ _ ty _ Try.underlying48 (DF.zero) rfl rfl B i _ _ (by omega) (fun t ht => by
            have h := RW.out.cellAt (i + t) (by omega)
            rw [h, List.getElem?_eq_getElem (by have := IV.out.size; have := hn.out; simp; omega)]; rfl) (fun t ht => RW.out.frozenAt (i + t))
        have RC := Aside0.mk (RW.out.cut hij)
        go_wp2
        go_ret
        refine ⟨_, rfl, ?_, fun b h1 h2 => DF.below_setCells _ (BL.out b h1 h2) (Nat.le_trans h1 HBB.out.1)⟩
        have h1 := IV.out.low
        have h2 := IV.out.len
        rw [show zs.take j = zs from List.take_of_length_le (by have := hn.out; omega)] at h1 h2
        rw [h2, ← h1]
        exact RC.out
set_option maxHeartbeats 1000000 in
theorem IndexFuncStr.calls_nil (g : Nat) (lb : Array Value) (w : World) :
    Calls Try.prog 112 #[.slice none 0 0, .func (.func g) #[] lb] w fun e w' => e = .returned (.int .i64 (-1)) ∧ Below w.heap.size w w' := by
  have HB := Aside0.mk (Below.refl w.heap.size w)
  go_enter Try.func112, Try.ntmps112
  go_wp2
  go_loopg [5, 8] 0 (fun gg _ s8 wr => s8 = .int .i64 0 ∧ Aside0 (Below w.heap.size w wr))
  case atStart => exact ⟨rfl, HB⟩
  case round =>
    obtain ⟨rfl, HB2⟩ := hrel
    go_wp2
    go_ret
    exact ⟨rfl, HB2.out⟩
set_option maxHeartbeats 1000000 in
theorem DeleteFuncStr.calls_nil (p : ByteArray → Bool) (g : Nat) (lb : Array Value) (eg : ∀ args w, (callFunc g args).run Try.prog w = .ok (.enter g args) w) (base : Nat) (w : World) :
    Calls Try.prog 93 #[.slice none 0 0, .func (.func g) #[] lb] w fun e w' => ∃ v, e = .returned v ∧ w'.ownsRow base 9 1 v 0 [] ∧ Below w.heap.size w w' := by
  have HI := Aside0.mk (IndexFuncStr.calls_nil g lb w)
  go_enter Try.func93, Try.ntmps93
  go_wp2_with fail
  refine HI.out.mono ?_
  rintro e w1 ⟨rfl, hb0⟩
  have hb := Aside0.mk hb0
  clear hb0
  go_wp2_with fail
  go_ret
  exact ⟨_, rfl, World.ownsRow_nil _ _ _ _, hb.out⟩
theorem DeleteFuncStr.calls (p : ByteArray → Bool) (g : Nat) (lb : Array Value) (eg : ∀ args w, (callFunc g args).run Try.prog w = .ok (.enter g args) w) (ok : Nat → Prop) (base : Nat) (A : Option Addr) (c : Nat) (zs : List ByteArray) (w : World) (hbw : base ≤ w.heap.size)
    (hr : Kd.R Kd.string 9 w base ok (.slice A zs.length c) zs) (hbig : zs.length ≤ 9223372036854775807)
    (hp : ∀ W x, x ∈ zs → Kept w W (fun k => base ≤ k) → Calls Try.prog g (#[.string x] ++ lb) W fun e W' => e = .returned (.bool (p x)) ∧ Below W.heap.size W W') :
    Calls Try.prog 93 #[.slice A zs.length c, .func (.func g) #[] lb] w fun e w' => ∃ v, e = .returned v ∧ Kd.R Kd.string 9 w' base (fun _ => True) v (DF.keep p zs) ∧ Below base w w' := by
  rcases (Kd.own_of_R hr).2 with ⟨hv, hz⟩ | ⟨B, cap, cur, hv, hg, hh, r⟩
  · have hzs : zs = [] := List.eq_nil_of_length_eq_zero hz
    subst hzs
    cases hv
    refine (DeleteFuncStr.calls_nil p g lb eg base w).mono ?_
    rintro e w' ⟨v, rfl, hrow, hb⟩
    exact ⟨v, rfl, Kd.R_of_own (h1 := fun _ => rfl) hrow (fun _ _ => trivial), hb.mono hbw⟩
  · injection hv with h1 h2 h3
    subst h1
    refine (DeleteFuncStr.calls_n p g lb eg ok base B c zs.length zs w ⟨rfl⟩ hr hbig (fun W x hm hk => hp W x hm (hk.mono (fun k e => e ▸ hg)))).mono ?_
    rintro e w' ⟨v, rfl, hrow, hb⟩
    exact ⟨v, rfl, Kd.R_of_own (h1 := fun _ => rfl) hrow (fun _ _ => trivial), hb base (Nat.le_refl _) hbw⟩

end Go.Proofs.Ytgagmodkjmegeaa.P

namespace Go.Proofs.Ytgagmodkjmegeaa.P
open Go.RowKit Go.Proofs.YtgagmodkjmegeaaW.PrintWords Go.Proofs.YtgagmodkjmegeaaW.PrintLast Go.Proofs.YtgagmodkjmegeaaW.PrintMore
attribute [local go_sem] max2_int min2_int max_two min_two max_three min_three max_four min_four
set_option linter.unusedVariables false
set_option linter.unusedSimpArgs false

/-! ### impl_Trie_under: function 57 -/
def impl_Trie_under.f (k : Nat) (l0_0 : List S80) (a1 : ByteArray) : Option (List ByteArray) := (impl_Trie_words.f k l0_0).bind fun ws => if ws.length ≤ 9223372036854775807 then filt (fun x => strings_HasPrefix.f x a1) ws else none
theorem impl_Trie_under.mono : ∀ a0 a1 k, LeO (impl_Trie_under.f k a0 a1) (impl_Trie_under.f (k + 1) a0 a1) := by
 intro a0 a1 k
 exact LeO.bind (impl_Trie_words.mono _ _) fun ws => LeO.refl _
set_option maxHeartbeats 1000000 in
theorem impl_Trie_under.lit (a1 x : ByteArray) (b : Bool) (B : Nat) (W : World) (hc : W.cell? ⟨B, 0, none⟩ = some (.string a1)) (h : strings_HasPrefix.f x a1 = some b) :
  Calls Try.prog 94 (#[.string x] ++ #[.pointer (some ⟨B, 0, none⟩)]) W fun e W' => e = .returned (.bool (!b)) ∧ Below W.heap.size W W' := by
 show Calls Try.prog 94 #[.string x, .pointer (some ⟨B, 0, none⟩)] W _
 have HH := Aside0.mk (strings_HasPrefix.calls x a1 b W h)
 clear h
 go_enter Try.func94, Try.ntmps94
 go_wp2_with (go_at_call 95; refine HH.out.mono ?_; rintro e w' ⟨rfl, hd⟩; have HB := Aside0.mk hd; clear hd)
 go_ret
 exact ⟨rfl, HB.out.below⟩
set_option maxHeartbeats 2000000 in
theorem impl_Trie_under.calls (k : Nat) (A0_0 : Option Addr) (c0_0 : Nat) (l0_0 : List S80) (a1 : ByteArray) (r : List ByteArray) (w : World) (hr0_0 : Kd.C k80 w A0_0 l0_0.length l0_0) (hc0_0 : l0_0.length ≤ c0_0) (h : impl_Trie_under.f k l0_0 a1 = some r) :
  Calls Try.prog 57 #[.agg #[.slice A0_0 l0_0.length c0_0], .string a1] w fun e w' => ∃ v0_ : Value, e = .returned v0_ ∧ Kd.R Kd.string 9 w' w.heap.size (fun _ => True) v0_ r ∧ Below w.heap.size w w' := by
 unfold impl_Trie_under.f at h
 cases hw : impl_Trie_words.f k l0_0 with
 | none => rw [hw] at h; cases h
 | some ws =>
 rw [hw, Option.bind_some] at h
 by_cases hl : ws.length ≤ 9223372036854775807
 ·
  rw [if_pos hl] at h
  obtain ⟨q, hq, hr⟩ := filt_some h
  have HQ := Aside0.mk hq
  have HR := Aside0.mk hr
  have HG := Aside0.mk hl
  have HW1 := Aside0.mk ((Below.refl w.heap.size w).alloc (Nat.le_refl _) (.cells #[.slice A0_0 l0_0.length c0_0] 31))
  have HW2 := Aside0.mk (HW1.out.alloc (by simp) (.cells #[.string a1] 9))
  have HC := Aside0.mk (impl_Trie_words.calls k A0_0 c0_0 l0_0 ws ((w.alloc (.cells #[.slice A0_0 l0_0.length c0_0] 31)).alloc (.cells #[.string a1] 9)) (Kd.C_below hr0_0 HW2.out) hc0_0 hw)
  clear h hq hr hl hw hr0_0
  go_enter Try.func57, Try.ntmps57
  go_wp2_with fail
  refine HC.out.mono ?_
  clear HC
  rintro e w1 ⟨v, rfl, hr, hb0⟩
  obtain ⟨A, c, hv⟩ := Kd.R_slice hr
  subst hv
  have HC1 := Aside0.mk ((hb0.cell (p := ⟨w.heap.size + 1, 0, none⟩) (by simp)).trans (show ((w.alloc (.cells #[.slice A0_0 l0_0.length c0_0] 31)).alloc (.cells #[.string a1] 9)).cell? ⟨w.heap.size + 1, 0, none⟩ = some (.string a1) from by simp))
  have HD := Aside0.mk (DeleteFuncStr.calls (fun x => !q x) 94 #[.pointer (some ⟨w.heap.size + 1, 0, none⟩)] (Go.Proofs.enters_of Try.func94 (by kernel_rfl) rfl) (fun _ => True) ((w.alloc (.cells #[.slice A0_0 l0_0.length c0_0] 31)).alloc (.cells #[.string a1] 9)).heap.size A c ws w1 hb0.size hr HG.out (fun W x hm hk => impl_Trie_under.lit a1 x (q x) (w.heap.size + 1) W (Go.Proofs.YtgagmodkjmegeaaW.PrintWords.cell_kept HC1.out hk (by simp)) (HQ.out x hm)))
  have HB2 := Aside0.mk (HW2.out.trans (hb0.mono HW2.out.size))
  clear hr hb0
  go_wp2_with fail
  refine HD.out.mono ?_
  clear HD
  rintro e w3 ⟨v3, rfl, hr3, hb3⟩
  have H3 := Aside0.mk (And.intro hr3 hb3)
  clear hr3 hb3
  go_wp2_with fail
  go_ret
  refine ⟨_, rfl, ?_, HB2.out.trans (H3.out.2.mono HW2.out.size)⟩
  have := H3.out.1
  simp only [DF.keep, Bool.not_not] at this
  rw [HR.out]
  exact Kd.R_lower this HW2.out.size
 ·
  rw [if_neg hl] at h; cases h

end Go.Proofs.Ytgagmodkjmegeaa.P

namespace Go.Proofs.Ytgagmodkjmegeaa.L
open Go.RowKit Go.Proofs.Ytgagmodkjmegeaa.P Go.Proofs.Ytgagmodkjmegeaa.M Go.Proofs.YtgagmodkjmegeaaW.PrintWords Go.Proofs.YtgagmodkjmegeaaW.PrintLast Go.Proofs.YtgagmodkjmegeaaW.PrintMore
set_option linter.unusedVariables false
theorem begins_eq (w p : Txt) (hw : w.length ≤ 4611686018427387900) : spec_l2Begins.f (B w) (B p) = some (hasPre w p) := by
  unfold spec_l2Begins.f hasPre
  by_cases h : p.length ≤ w.length
  · rw [if_pos (by simp; omega), if_pos (by omega), if_pos (by simp; omega)]; simp
  · rw [if_neg (by simp; omega)]
    have : (w.take p.length == p) = false := by
      simp only [beq_eq_false_iff_ne]
      intro e
      have := congrArg List.length e
      simp at this; omega
    simp [this]
theorem l3Under_loop (ws : List Txt) (p : Txt) (hl : ws.length ≤ 1000000) (hw : ∀ w ∈ ws, w.length ≤ 12) : ∀ (d i : Nat) (acc : List Txt), i + d = ws.length → acc.length ≤ i →
    Ev (fun k => spec_l3Under.l0 k (ws.map B) (B p) (acc.map B) (i : Int)) ((acc ++ (ws.drop i).filter fun w => hasPre w p).map B) := by
  intro d
  induction d with
  | zero =>
    intro i acc h1 h2
    rw [List.drop_of_length_le (by omega), List.filter_nil, List.append_nil]
    exact Ev.step (fun k => spec_l3Under.l0.eq_2 ..) (Ev.ifF (by rw [List.length_map]; omega) (Ev.now _))
  | succ d ih =>
    intro i acc h1 h2
    have hi : i < ws.length := by omega
    have hm := hw _ (getD_mem hi)
    rw [drop_cons_getD [] hi, List.filter_cons]
    refine Ev.step (fun k => spec_l3Under.l0.eq_2 ..) (Ev.ifT (by rw [List.length_map]; omega) (Ev.ifT (by omega) ?_))
    rw [rdB ws i hi, begins_eq _ _ (by omega)]
    refine Ev.some_bind ?_
    cases hq : hasPre (ws.getD i []) p with
    | true =>
      rw [if_pos rfl]
      refine Ev.ifT rfl (Ev.ifT (by rw [List.length_map]; omega) ?_)
      rw [wrap64_succ i (by omega)]
      have := ih (i + 1) (acc ++ [ws.getD i []]) (by omega) (by simp; omega)
      rw [List.map_append (l₁ := acc), List.map_singleton, List.append_assoc] at this
      exact this
    | false =>
      rw [if_neg Bool.false_ne_true]
      refine Ev.ifF Bool.false_ne_true ?_
      rw [wrap64_succ i (by omega)]
      exact ih (i + 1) acc (by omega) (by omega)
theorem l3Under_ev (ws : List Txt) (p : Txt) (hl : ws.length ≤ 1000000) (hw : ∀ w ∈ ws, w.length ≤ 12) : Ev (fun k => spec_l3Under.f k (ws.map B) (B p)) ((ws.filter fun w => hasPre w p).map B) := by
  have := l3Under_loop ws p hl hw ws.length 0 [] (by omega) (by simp)
  rw [List.drop_zero, List.nil_append] at this
  exact this
theorem under_ev {ws : List Txt} (h : OkW ws) (p : Txt) (hp : p.length ≤ 4611686018427387900) : Ev (fun k => impl_Trie_under.f k (trN (preL ws) ws) (B p)) ((ws.filter fun w => hasPre w p).map B) := by
  unfold impl_Trie_under.f
  refine Ev.bind (words_ev h) (Ev.ifT (by rw [List.length_map]; have := h.len; omega) ?_)
  rw [filt_of (fun x => hasPre x.data.toList p) (fun x hx => by
    obtain ⟨w, hw, rfl⟩ := List.mem_map.1 hx
    rw [data_B]
    exact HasPrefix_eq w p (by have := h.le w hw; omega) hp)]
  rw [List.filter_map]
  have e : (fun x : ByteArray => hasPre x.data.toList p) ∘ B = fun w => hasPre w p := by
    funext w; show hasPre (B w).data.toList p = _; rw [data_B]
  rw [e]
  exact Ev.now _

end Go.Proofs.Ytgagmodkjmegeaa.L

namespace Go.Proofs.Ytgagmodkjmegeaa.M
def sumL (f : Txt → Nat) : List Txt → Nat
  | [] => 0
  | x :: r => f x + sumL f r
theorem sumL_congr {f g : Txt → Nat} : ∀ {l : List Txt}, (∀ x ∈ l, f x = g x) → sumL f l = sumL g l
  | [], _ => rfl
  | x :: r, h => by rw [sumL, sumL, h x (by simp), sumL_congr fun y hy => h y (List.mem_cons_of_mem _ hy)]
theorem sumL_zero {f : Txt → Nat} : ∀ {l : List Txt}, (∀ x ∈ l, f x = 0) → sumL f l = 0
  | [], _ => rfl
  | x :: r, h => by rw [sumL, h x (by simp), sumL_zero fun y hy => h y (List.mem_cons_of_mem _ hy)]
theorem sumL_add (f g : Txt → Nat) : ∀ l : List Txt, sumL (fun x => f x + g x) l = sumL f l + sumL g l
  | [] => rfl
  | x :: r => by rw [sumL, sumL, sumL, sumL_add f g r]; omega
theorem sumL_le (f : Txt → Nat) (b : Nat) : ∀ l : List Txt, (∀ x ∈ l, f x ≤ b) → sumL f l ≤ b * l.length
  | [], _ => by simp [sumL]
  | x :: r, h => by
    have h1 := h x (by simp)
    have h2 := sumL_le f b r fun y hy => h y (List.mem_cons_of_mem _ hy)
    rw [sumL, List.length_cons, Nat.mul_succ]; omega
theorem sumL_one {Q : List Txt} (hQ : Asc Q) (a : Txt) (F : Txt → Nat) : a ∈ Q → sumL (fun p => if p = a then F p else 0) Q = F a := by
  induction Q with
  | nil => intro h; simp at h
  | cons x r ih =>
    intro h
    unfold Asc at hQ
    rw [List.pairwise_cons] at hQ
    by_cases e : x = a
    · subst e
      rw [sumL, if_pos rfl, sumL_zero fun y hy => if_neg fun e => ?_]
      · omega
      · subst e; exact txt_irrefl _ (hQ.1 _ hy)
    · rw [sumL, if_neg e, ih hQ.2 ((List.mem_cons.1 h).resolve_left fun q => e q.symm)]
      omega

end Go.Proofs.Ytgagmodkjmegeaa.M

namespace Go.Proofs.Ytgagmodkjmegeaa.L
open Go.RowKit Go.Proofs.Ytgagmodkjmegeaa.P Go.Proofs.Ytgagmodkjmegeaa.M Go.Proofs.YtgagmodkjmegeaaW.PrintWords Go.Proofs.YtgagmodkjmegeaaW.PrintLast Go.Proofs.YtgagmodkjmegeaaW.PrintMore
set_option linter.unusedVariables false
theorem pow_bd (K m i : Nat) (h1 : 1 ≤ K) (h2 : K ≤ 26) (h3 : i ≤ m) (h4 : m ≤ 12) : K ^ i ≤ 95428956661682176 := by
  have a1 : K ^ i ≤ 26 ^ i := Nat.pow_le_pow_left h2 i
  have a2 : (26 : Nat) ^ i ≤ 26 ^ 12 := Nat.pow_le_pow_right (by omega) (by omega)
  have a3 : (26 : Nat) ^ 12 = 95428956661682176 := by decide
  omega
theorem power_step (K i : Nat) (h : K ^ (i + 1) ≤ 95428956661682176) : wrap64 (((K ^ i : Nat) : Int) * (K : Int)) = ((K ^ (i + 1) : Nat) : Int) := by
  rw [← Int.natCast_mul, ← Nat.pow_succ, show i.succ = i + 1 from rfl, wrapN (by omega)]
theorem l9Power_ev (K m : Nat) (h1 : 1 ≤ K) (h2 : K ≤ 26) (h4 : m ≤ 12) : Ev (fun k => spec_l9Power.f k (K : Int) (m : Int)) ((K ^ m : Nat) : Int) := by
  have : ∀ d i, i + d = m → Ev (fun k => spec_l9Power.l0 k (K : Int) (m : Int) ((K ^ i : Nat) : Int) (i : Int)) ((K ^ m : Nat) : Int) := by
    intro d
    induction d with
    | zero =>
      intro i h
      obtain rfl : i = m := by omega
      exact Ev.step (fun k => spec_l9Power.l0.eq_2 ..) (Ev.ifF (by omega) (Ev.now _))
    | succ d ih =>
      intro i h
      refine Ev.step (fun k => spec_l9Power.l0.eq_2 ..) (Ev.ifT (by omega) ?_)
      rw [power_step K i (pow_bd K m (i + 1) h1 h2 (by omega) h4), wrap64_succ i (by omega)]
      exact ih (i + 1) (by omega)
  exact this m 0 (by omega)
theorem power_ev (K m : Nat) (h1 : 1 ≤ K) (h2 : K ≤ 26) (h4 : m ≤ 12) : Ev (fun k => impl_power.f k (K : Int) (m : Int)) ((K ^ m : Nat) : Int) := by
  have : ∀ d i, i + d = m → Ev (fun k => impl_power.l0 k (K : Int) ((K ^ i : Nat) : Int) (m : Int) (i : Int)) ((K ^ m : Nat) : Int) := by
    intro d
    induction d with
    | zero =>
      intro i h
      obtain rfl : i = m := by omega
      exact Ev.step (fun k => impl_power.l0.eq_2 ..) (Ev.ifF (by omega) (Ev.now _))
    | succ d ih =>
      intro i h
      refine Ev.step (fun k => impl_power.l0.eq_2 ..) (Ev.ifT (by omega) ?_)
      rw [power_step K i (pow_bd K m (i + 1) h1 h2 (by omega) h4), wrap64_succ i (by omega)]
      exact ih (i + 1) (by omega)
  exact this m 0 (by omega)
/-- Has a word the first K letters alone? -/
def ofK (K : Int) (w : Txt) : Bool := w.all fun c => decide (((c.toNat : Int) - 97) % 256 < K)
theorem l9First_ev (w : Txt) (K : Int) (hw : w.length ≤ 1000000) : Ev (fun k => spec_l9First.f k (B w) K) (ofK K w) := by
  have : ∀ d i, i + d = w.length → Ev (fun k => spec_l9First.l0 k (B w) K (i : Int)) ((w.drop i).all fun c => decide (((c.toNat : Int) - 97) % 256 < K)) := by
    intro d
    induction d with
    | zero =>
      intro i h
      rw [List.drop_of_length_le (by omega)]
      exact Ev.step (fun k => spec_l9First.l0.eq_2 ..) (Ev.ifF (by rw [size_B]; omega) (Ev.now _))
    | succ d ih =>
      intro i h
      have hi : i < w.length := by omega
      rw [drop_cons_getD 0 hi, List.all_cons]
      refine Ev.step (fun k => spec_l9First.l0.eq_2 ..) (Ev.ifT (by rw [size_B]; omega) (Ev.ifT (by omega) ?_))
      rw [bt_B w i hi]
      by_cases hc : (((w.getD i 0).toNat : Int) - 97) % 256 < K
      · rw [decide_eq_true hc, Bool.true_and]
        refine Ev.ifF (by omega) ?_
        rw [wrap64_succ i (by omega)]
        exact ih (i + 1) (by omega)
      · rw [decide_eq_false hc, Bool.false_and]
        exact Ev.ifT (by omega) (Ev.now _)
  exact this w.length 0 (by omega)
theorem isOf_ev (w : Txt) (K : Int) (hw : w.length ≤ 1000000) : Ev (fun k => impl_isOf.f k (B w) K) (ofK K w) := by
  have : ∀ d i, i + d = w.length → Ev (fun k => impl_isOf.l0 k (B w) K (w.length : Int) (i : Int)) ((w.drop i).all fun c => decide (((c.toNat : Int) - 97) % 256 < K)) := by
    intro d
    induction d with
    | zero =>
      intro i h
      rw [List.drop_of_length_le (by omega)]
      exact Ev.step (fun k => impl_isOf.l0.eq_2 ..) (Ev.ifF (by omega) (Ev.now _))
    | succ d ih =>
      intro i h
      have hi : i < w.length := by omega
      rw [drop_cons_getD 0 hi, List.all_cons]
      refine Ev.step (fun k => impl_isOf.l0.eq_2 ..) (Ev.ifT (by omega) (Ev.ifT (by omega) (Ev.ifT (by rw [size_B]; omega) ?_)))
      rw [bt_B w i hi]
      by_cases hc : (((w.getD i 0).toNat : Int) - 97) % 256 < K
      · rw [decide_eq_true hc, Bool.true_and]
        refine Ev.ifF (by omega) ?_
        rw [wrap64_succ i (by omega)]
        exact ih (i + 1) (by omega)
      · rw [decide_eq_false hc, Bool.false_and]
        exact Ev.ifT (by omega) (Ev.now _)
  have h := this w.length 0 (by omega)
  unfold impl_isOf.f
  rw [size_B]
  exact h
theorem random_eq (a b : Int) : spec_l9Random.f a b = some (decide ((1 ≤ a ∧ a ≤ 26) ∧ 0 ≤ b ∧ b ≤ 12)) ∧ impl_isRandom.f a b = some (decide ((1 ≤ a ∧ a ≤ 26) ∧ 0 ≤ b ∧ b ≤ 12)) := by
  unfold spec_l9Random.f impl_isRandom.f
  rw [l1In_eq, in_eq, l1In_eq, in_eq]
  by_cases h : 1 ≤ a ∧ a ≤ 26
  · rw [decide_eq_true h]; simp [h]
  · rw [decide_eq_false h]; simp [h]

end Go.Proofs.Ytgagmodkjmegeaa.L

namespace Go.Proofs.Ytgagmodkjmegeaa.L
open Go.RowKit Go.Proofs.Ytgagmodkjmegeaa.P Go.Proofs.Ytgagmodkjmegeaa.M Go.Proofs.YtgagmodkjmegeaaW.PrintWords Go.Proofs.YtgagmodkjmegeaaW.PrintLast Go.Proofs.YtgagmodkjmegeaaW.PrintMore
set_option linter.unusedVariables false
theorem eqA2_self (a b : Int) : laws_eqIntA2.f a b a b = some true := by unfold laws_eqIntA2.f; simp

end Go.Proofs.Ytgagmodkjmegeaa.L

namespace Go.Proofs.Ytgagmodkjmegeaa.Pure
open Go.RowKit Go.Proofs.Ytgagmodkjmegeaa.P Go.Proofs.Ytgagmodkjmegeaa.M Go.Proofs.YtgagmodkjmegeaaW.PrintWords Go.Proofs.YtgagmodkjmegeaaW.PrintLast Go.Proofs.YtgagmodkjmegeaaW.PrintMore
set_option linter.unusedVariables false
open Go.Proofs.Ytgagmodkjmegeaa.L
namespace ChanceBegins
def fl (w : Txt) (l : List Txt) : Bool := l.any fun o => decide (o ≠ w) && hasPre w o
/-- None of the others is a beginning of it. -/
def isF (ws : List Txt) (w : Txt) : Bool := !fl w ws
theorem first_in {ws : List Txt} (hA : Asc ws) (hw : ∀ w ∈ ws, w.length ≤ 12) (hl : ws.length ≤ 1000000) (i : Nat) (hi : i < ws.length) (acc : List Txt) (hacc : acc.length ≤ i) (r : List ByteArray) :
    ∀ (d j : Nat) (flag : Bool), j + d = ws.length → Ev (fun k => spec_l5First.l0 k (ws.map B) true ((if (flag && !fl (ws.getD i []) (ws.drop j)) = true then acc ++ [ws.getD i []] else acc).map B) ((i + 1 : Nat) : Int)) r →
    Ev (fun k => spec_l5First.l1 k (ws.map B) true (acc.map B) (i : Int) flag (j : Int)) r := by
  have hwi := hw _ (getD_mem hi)
  intro d
  induction d with
  | zero =>
    intro j flag h1 hr
    rw [List.drop_of_length_le (by omega), show fl (ws.getD i []) [] = false from rfl, Bool.not_false, Bool.and_true] at hr
    refine Ev.step (fun k => spec_l5First.l1.eq_2 ..) (Ev.ifF (by rw [List.length_map]; omega) ?_)
    rw [wrap64_succ i (by omega)]
    cases flag with
    | true =>
      rw [if_pos rfl, List.map_append, List.map_singleton] at hr
      refine Ev.ifT rfl (Ev.ifT (by omega) (Ev.ifT (by rw [List.length_map]; omega) (Ev.ifT (by rw [List.length_map]; omega) ?_)))
      rw [rdB ws i hi]
      exact hr
    | false =>
      rw [if_neg Bool.false_ne_true] at hr
      exact Ev.ifF Bool.false_ne_true hr
  | succ d ih =>
    intro j flag h1 hr
    have hj : j < ws.length := by omega
    rw [drop_cons_getD [] hj] at hr
    have hfl : fl (ws.getD i []) (ws.getD j [] :: ws.drop (j + 1)) = ((decide (ws.getD j [] ≠ ws.getD i []) && hasPre (ws.getD i []) (ws.getD j [])) || fl (ws.getD i []) (ws.drop (j + 1))) := by unfold fl; rw [List.any_cons]
    rw [hfl] at hr
    refine Ev.step (fun k => spec_l5First.l1.eq_2 ..) (Ev.ifT (by rw [List.length_map]; omega) ?_)
    rw [wrap64_succ j (by omega)]
    by_cases hij : j = i
    · subst hij
      rw [decide_eq_false (fun h => h rfl), Bool.false_and, Bool.false_or] at hr
      exact Ev.ifT rfl (ih (j + 1) flag (by omega) hr)
    · have hne : ws.getD j [] ≠ ws.getD i [] := fun e => hij (asc_inj hA hj hi e)
      rw [decide_eq_true hne, Bool.true_and] at hr
      refine Ev.ifF (by omega) (Ev.ifT rfl (Ev.ifT (by omega) (Ev.ifT (by rw [List.length_map]; omega) (Ev.ifT (by omega) ?_))))
      rw [rdB ws i hi, rdB ws j hj, begins_eq _ _ (by omega)]
      refine Ev.some_bind ?_
      cases hq : hasPre (ws.getD i []) (ws.getD j []) with
      | true =>
        rw [hq, Bool.true_or, Bool.not_true, Bool.and_false] at hr
        refine Ev.ifT rfl (ih (j + 1) false (by omega) ?_)
        rw [Bool.false_and]
        exact hr
      | false =>
        rw [hq, Bool.false_or] at hr
        exact Ev.ifF Bool.false_ne_true (ih (j + 1) flag (by omega) hr)
theorem first_out {ws : List Txt} (hA : Asc ws) (hw : ∀ w ∈ ws, w.length ≤ 12) (hl : ws.length ≤ 1000000) : ∀ (d i : Nat) (acc : List Txt), i + d = ws.length → acc.length ≤ i →
    Ev (fun k => spec_l5First.l0 k (ws.map B) true (acc.map B) (i : Int)) ((acc ++ (ws.drop i).filter (isF ws)).map B) := by
  intro d
  induction d with
  | zero =>
    intro i acc h1 h2
    rw [List.drop_of_length_le (by omega), List.filter_nil, List.append_nil]
    exact Ev.step (fun k => spec_l5First.l0.eq_2 ..) (Ev.ifF (by rw [List.length_map]; omega) (Ev.now _))
  | succ d ih =>
    intro i acc h1 h2
    have hi : i < ws.length := by omega
    rw [drop_cons_getD [] hi, List.filter_cons]
    refine Ev.step (fun k => spec_l5First.l0.eq_2 ..) (Ev.ifT (by rw [List.length_map]; omega) ?_)
    refine first_in hA hw hl i hi acc h2 _ ws.length 0 true (by omega) ?_
    rw [Bool.true_and, List.drop_zero]
    show Ev (fun k => spec_l5First.l0 k (ws.map B) true ((if isF ws (ws.getD i []) = true then acc ++ [ws.getD i []] else acc).map B) ((i + 1 : Nat) : Int)) _
    by_cases hf : isF ws (ws.getD i []) = true
    · rw [if_pos hf, if_pos hf]
      have := ih (i + 1) (acc ++ [ws.getD i []]) (by omega) (by simp; omega)
      rw [List.append_assoc] at this
      exact this
    · rw [if_neg hf, if_neg hf]
      exact ih (i + 1) acc (by omega) (by omega)
theorem first_ev {ws : List Txt} (h : OkW ws) : Ev (fun k => spec_l5First.f k (ws.map B) true) ((ws.filter (isF ws)).map B) := by
  have h40 := h.len
  have := first_out h.asc h.le (by omega) ws.length 0 [] (by omega) (by simp)
  rw [List.drop_zero, List.nil_append] at this
  exact this
theorem begins_ev {ws : List Txt} (h : OkW ws) (w : Txt) (hw : w.length ≤ 12) : Ev (fun k => impl_Trie_begins.f k (trN (preL ws) ws) (B w)) (fl w ws) := by
  unfold impl_Trie_begins.f
  refine Ev.bind (words_ev h) ?_
  rw [anyf_of (fun x => decide (x.data.toList ≠ w) && hasPre w x.data.toList) (fun x hx => by
    obtain ⟨o, ho, rfl⟩ := List.mem_map.1 hx
    unfold impl_Trie_begins.p
    rw [toList_B, toList_B, data_B]
    by_cases e : o = w
    · rw [if_pos e, decide_eq_false (fun q => q e), Bool.false_and]
    · rw [if_neg e, decide_eq_true e, Bool.true_and]
      exact HasPrefix_eq w o (by omega) (by have := h.le o ho; omega))]
  rw [List.any_map]
  have e : (fun x : ByteArray => decide (x.data.toList ≠ w) && hasPre w x.data.toList) ∘ B = fun o => decide (o ≠ w) && hasPre w o := by
    funext o; show (decide ((B o).data.toList ≠ w) && hasPre w (B o).data.toList) = _; rw [data_B]
  rw [e]
  exact Ev.now _
def gS (K n : Nat) (w : Txt) : Nat := if w.length ≤ n ∧ ofK (K : Int) w = true then K ^ (n - w.length) else 0
def gI (ws : List Txt) (K n : Nat) (w : Txt) : Nat := if isF ws w = true then gS K n w else 0
theorem sumL_filter (p : Txt → Bool) (f : Txt → Nat) : ∀ l : List Txt, sumL f (l.filter p) = sumL (fun w => if p w = true then f w else 0) l
  | [] => rfl
  | x :: r => by
    rw [List.filter_cons, sumL]
    cases hp : p x with
    | true => rw [if_pos rfl, if_pos rfl, sumL, sumL_filter p f r]
    | false => rw [if_neg Bool.false_ne_true, if_neg Bool.false_ne_true, sumL_filter p f r, Nat.zero_add]
theorem gS_le (K n : Nat) (h1 : 1 ≤ K) (h2 : K ≤ 26) (h3 : n ≤ 12) (w : Txt) : gS K n w ≤ 95428956661682176 := by
  unfold gS
  split
  · exact pow_bd K n _ h1 h2 (Nat.sub_le _ _) h3
  · omega
theorem bound {ws : List Txt} (h : OkW ws) (K n : Nat) (h1 : 1 ≤ K) (h2 : K ≤ 26) (h3 : n ≤ 12) : sumL (gI ws K n) ws ≤ 3817158266467287040 := by
  have h4 := sumL_le (gI ws K n) 95428956661682176 ws fun w _ => by
    unfold gI
    have := gS_le K n h1 h2 h3 w
    split <;> omega
  have := h.len
  have : 95428956661682176 * ws.length ≤ 95428956661682176 * 40 := Nat.mul_le_mul_left _ this
  omega
theorem spec_loop (fs : List Txt) (hf : ∀ w ∈ fs, w.length ≤ 12) (hl : fs.length ≤ 1000) (K n : Nat) (h1 : 1 ≤ K) (h2 : K ≤ 26) (h3 : n ≤ 12) (S : Nat) (hS : S ≤ 3817158266467287040) : ∀ (d i s : Nat), i + d = fs.length → s + sumL (gS K n) (fs.drop i) = S →
    Ev (fun k => spec_ChanceBegins.l0 k (K : Int) (n : Int) (s : Int) (fs.map B) (i : Int)) ((fr S (K ^ n)).1, (fr S (K ^ n)).2, true) := by
  intro d
  induction d with
  | zero =>
    intro i s q1 q2
    rw [List.drop_of_length_le (by omega), sumL] at q2
    obtain rfl : s = S := by omega
    refine Ev.step (fun k => spec_ChanceBegins.l0.eq_2 ..) (Ev.ifF (by rw [List.length_map]; omega) ?_)
    exact Ev.bind (l9Power_ev K n h1 h2 h3) (Ev.bind (a := fr s (K ^ n)) (cut_ev _ _ (by omega) (Nat.pow_pos h1) (by have := pow_bd K n n h1 h2 (Nat.le_refl _) h3; omega)) (Ev.now _))
  | succ d ih =>
    intro i s q1 q2
    have hi : i < fs.length := by omega
    have hwi := hf _ (getD_mem hi)
    rw [drop_cons_getD [] hi, sumL] at q2
    refine Ev.step (fun k => spec_ChanceBegins.l0.eq_2 ..) (Ev.ifT (by rw [List.length_map]; omega) (Ev.ifT (by omega) ?_))
    rw [rdB fs i hi, size_B, wrap64_succ i (by omega)]
    by_cases hn : (fs.getD i []).length ≤ n
    · refine Ev.ifT (by omega) (Ev.bind (l9First_ev _ _ (by omega)) ?_)
      cases ho : ofK (K : Int) (fs.getD i []) with
      | true =>
        have hg : gS K n (fs.getD i []) = K ^ (n - (fs.getD i []).length) := if_pos ⟨hn, ho⟩
        have hsub : wrap64 ((n : Int) - ((fs.getD i []).length : Int)) = ((n - (fs.getD i []).length : Nat) : Int) := by rw [wrap64_id (by omega) (by omega)]; omega
        rw [hsub]
        refine Ev.ifT rfl (Ev.bind (l9Power_ev K _ h1 h2 (by omega)) ?_)
        rw [← hg, ← Int.natCast_add, wrapN (by omega)]
        exact ih (i + 1) _ (by omega) (by omega)
      | false =>
        have hg : gS K n (fs.getD i []) = 0 := if_neg fun q => by rw [ho] at q; exact Bool.false_ne_true q.2
        exact Ev.ifF Bool.false_ne_true (ih (i + 1) s (by omega) (by omega))
    · have hg : gS K n (fs.getD i []) = 0 := if_neg fun q => hn q.1
      exact Ev.ifF (by omega) (ih (i + 1) s (by omega) (by omega))
theorem impl_loop {ws : List Txt} (h : OkW ws) (K n : Nat) (h1 : 1 ≤ K) (h2 : K ≤ 26) (h3 : n ≤ 12) (S : Nat) (hS : S ≤ 3817158266467287040) : ∀ (d i s : Nat), i + d = ws.length → s + sumL (gI ws K n) (ws.drop i) = S →
    Ev (fun k => impl_ChanceBegins.l0 k (K : Int) (n : Int) (s : Int) (ws.map B) (ws.length : Int) (i : Int) (trN (preL ws) ws)) ((fr S (K ^ n)).1, (fr S (K ^ n)).2, true) := by
  have h40 := h.len
  intro d
  induction d with
  | zero =>
    intro i s q1 q2
    rw [List.drop_of_length_le (by omega), sumL] at q2
    obtain rfl : s = S := by omega
    refine Ev.step (fun k => impl_ChanceBegins.l0.eq_2 ..) (Ev.ifF (by omega) ?_)
    exact Ev.bind (power_ev K n h1 h2 h3) (Ev.bind (a := fr s (K ^ n)) (frac_ev _ _ (by omega) (Nat.pow_pos h1) (by have := pow_bd K n n h1 h2 (Nat.le_refl _) h3; omega)) (Ev.now _))
  | succ d ih =>
    intro i s q1 q2
    have hi : i < ws.length := by omega
    have hwi := h.le _ (getD_mem hi)
    rw [drop_cons_getD [] hi, sumL] at q2
    refine Ev.step (fun k => impl_ChanceBegins.l0.eq_2 ..) (Ev.ifT (by omega) (Ev.ifT (by omega) (Ev.ifT (by rw [List.length_map]; omega) ?_)))
    rw [rdB ws i hi, size_B, wrap64_succ i (by omega)]
    by_cases hn : (ws.getD i []).length ≤ n
    · refine Ev.ifT (by omega) (Ev.bind (isOf_ev _ _ (by omega)) ?_)
      cases ho : ofK (K : Int) (ws.getD i []) with
      | true =>
        refine Ev.ifT rfl (Ev.bind (begins_ev h _ hwi) ?_)
        cases hb : fl (ws.getD i []) ws with
        | true =>
          have hg : gI ws K n (ws.getD i []) = 0 := if_neg (by unfold isF; rw [hb]; exact Bool.false_ne_true)
          exact Ev.ifT rfl (ih (i + 1) s (by omega) (by omega))
        | false =>
          have hg : gI ws K n (ws.getD i []) = K ^ (n - (ws.getD i []).length) := (if_pos (by unfold isF; rw [hb]; rfl)).trans (if_pos ⟨hn, ho⟩)
          have hsub : wrap64 ((n : Int) - ((ws.getD i []).length : Int)) = ((n - (ws.getD i []).length : Nat) : Int) := by rw [wrap64_id (by omega) (by omega)]; omega
          rw [hsub]
          refine Ev.ifF Bool.false_ne_true (Ev.bind (power_ev K _ h1 h2 (by omega)) ?_)
          rw [← hg, ← Int.natCast_add, wrapN (by omega)]
          exact ih (i + 1) _ (by omega) (by omega)
      | false =>
        have hg : gI ws K n (ws.getD i []) = 0 := by
          unfold gI
          split
          · exact if_neg fun q => by rw [ho] at q; exact Bool.false_ne_true q.2
          · rfl
        exact Ev.ifF Bool.false_ne_true (ih (i + 1) s (by omega) (by omega))
    · have hg : gI ws K n (ws.getD i []) = 0 := by
        unfold gI
        split
        · exact if_neg fun q => hn q.1
        · rfl
      exact Ev.ifF (by omega) (ih (i + 1) s (by omega) (by omega))
theorem both (N : List Nd) (a b : Int) : ∃ r : Int × Int × Bool, Ev (fun k => spec_ChanceBegins.f k N a b) r ∧ Ev (fun k => impl_ChanceBegins.f k N a b) r := by
  unfold spec_ChanceBegins.f impl_ChanceBegins.f
  have s0 : Ev (fun k => spec_ChanceBegins.j0 k a b true N) (0, 0, false) := Ev.step (fun k => spec_ChanceBegins.j0.eq_2 ..) (Ev.ifT rfl (Ev.now _))
  have i0 : Ev (fun k => impl_ChanceBegins.j0 k a b true N) (0, 0, false) := Ev.step (fun k => impl_ChanceBegins.j0.eq_2 ..) (Ev.ifT rfl (Ev.now _))
  obtain ⟨r1, r2⟩ := random_eq a b
  rcases trie_both N with ⟨⟨ws, h, rfl⟩, e1, e2⟩ | ⟨_, e1, e2⟩
  · by_cases ha : (1 ≤ a ∧ a ≤ 26) ∧ 0 ≤ b ∧ b ≤ 12
    · rw [decide_eq_true ha] at r1 r2
      obtain ⟨K, rfl⟩ : ∃ K : Nat, a = (K : Int) := ⟨a.toNat, by omega⟩
      obtain ⟨n, rfl⟩ : ∃ n : Nat, b = (n : Int) := ⟨b.toNat, by omega⟩
      have k1 : 1 ≤ K := by omega
      have k2 : K ≤ 26 := by omega
      have k3 : n ≤ 12 := by omega
      refine ⟨((fr (sumL (gI ws K n) ws) (K ^ n)).1, (fr (sumL (gI ws K n) ws) (K ^ n)).2, true), Ev.bind e1 (Ev.ifT rfl ?_), Ev.bind e2 (Ev.ifT rfl ?_)⟩
      · rw [r1]
        refine Ev.some_bind (Ev.step (fun k => spec_ChanceBegins.j0.eq_2 ..) (Ev.ifF (by simp) (Ev.bind (l2Words_ev h) (Ev.bind (first_ev h) ?_))))
        have hfl := List.length_filter_le (isF ws) ws
        have h40 := h.len
        exact spec_loop _ (fun w hw => h.le w (List.mem_filter.1 hw).1) (by omega) K n k1 k2 k3 _ (bound h K n k1 k2 k3) _ 0 0 (by rw [Nat.zero_add]) (by rw [List.drop_zero, Nat.zero_add, sumL_filter]; rfl)
      · rw [r2]
        refine Ev.some_bind (Ev.step (fun k => impl_ChanceBegins.j0.eq_2 ..) (Ev.ifF (by simp) (Ev.bind (words_ev h) ?_)))
        rw [List.length_map]
        exact impl_loop h K n k1 k2 k3 _ (bound h K n k1 k2 k3) ws.length 0 0 (by omega) (by rw [List.drop_zero]; omega)
    · rw [decide_eq_false ha] at r1 r2
      refine ⟨(0, 0, false), Ev.bind e1 (Ev.ifT rfl ?_), Ev.bind e2 (Ev.ifT rfl ?_)⟩
      · rw [r1]; exact Ev.some_bind s0
      · rw [r2]; exact Ev.some_bind i0
  · exact ⟨(0, 0, false), Ev.bind e1 (Ev.ifF Bool.false_ne_true s0), Ev.bind e2 (Ev.ifF Bool.false_ne_true i0)⟩
end ChanceBegins
theorem FnExactChanceBegins : laws_FnExactChanceBegins.Pure := by
  intro l a b hl ha hb
  by_cases hs : l.length ≤ 1048576
  · obtain ⟨r, h1, h2⟩ := ChanceBegins.both (toN l) a b
    refine Ev.rounds ?_
    unfold laws_FnExactChanceBegins.f
    rw [szTrie_eq l hl, if_pos hs]
    refine Ev.some_bind (Ev.ifF (by omega) (Ev.bind (toTrie_ev l hs) (Ev.bind h1 (Ev.bind (toTrie_ev l hs) (Ev.bind h2 ?_)))))
    rw [eqA2_self]
    refine Ev.some_bind (Ev.ifT rfl (Ev.step (fun k => laws_FnExactChanceBegins.j0.eq_2 ..) (Ev.ifF (by simp) (Ev.bind (toTrie_ev l hs) (Ev.bind (eqTrie_ev _ (by rw [toN_length]; omega)) (Ev.ifT rfl (Ev.now _)))))))
  · exact ⟨0, by unfold laws_FnExactChanceBegins.f; rw [szTrie_eq l hl, if_neg hs]; rfl⟩

end Go.Proofs.Ytgagmodkjmegeaa.Pure

namespace Go.Proofs.Ytgagmodkjmegeaa.fnExactChanceBegins
open Go.ChangeShapes Go.WideShapes Go.ChangeAt Go.RowKit Go.Proofs.Ytgagmodkjmegeaa.P
open Go.ChangeMaps (open_string shut_string)
set_option linter.unusedVariables false
theorem own : ownKnob Try.prog.godebug = none := by kernel_rfl
theorem laidOut : laidOutB Try.prog = true := by kernel_rfl
set_option maxRecDepth 100000 in
theorem lifted (os : Os) (started : os.Started) (H : Type) (enc : TypeId × Value → H) :
    ReturnsInHanded {} Try.checked os 10 .any (Rows.fnExactChanceBeginsSpec.pre6 enc Try.prog Try.f10 Rows.fnExactChanceBeginsRow.domain false) (Rows.fnExactChanceBeginsSpec.post enc Try.prog Try.f10 false true false false) := by
  refine returnsInHanded_of_change_sized (C := Try.checked) own started (by kernel_rfl) Try.func10
    (ChangeSpec.witness6 (enc := enc) (C := Try.checked) false ⟨#[], #[.agg #[.slice none 0 0], .int .i64 0, .int .i64 0], []⟩ 8 (by kernel_rfl) (by kernel_rfl) (by kernel_rfl) (by kernel_rfl)) ?_
  intro W base args ds gs before hval0 hW hcnd hsz0 _
  have hsz : (DataW.weightsEach Try.prog (Try.f10.params.toList ++ Rows.fnExactChanceBeginsSpec.plain.varTypes Try.prog) (ds ++ gs)).all (· ≤ reachBytes) = true := hsz0
  have hval : ∀ (j : Nat) t v, Try.f10.params[j]? = some t → args[j]? = some v → Value.okWide Try.prog W .any base t v := hval0
  have hW' := hW
  obtain ⟨p, q, hA0, hV, rfl, hfz, hnd⟩ := hW
  have hA : DataW.TrodAll enc Try.prog W 0 (fun _ => true) true Try.f10.params.toList args.toList ds p := hA0
  rw [Try.params10] at hA hval hsz
  obtain ⟨v0, vs0, d0, ds0, p0, q0, hargs, rfl, rfl, h0, r0⟩ := trodAll_cons hA
  obtain ⟨v1, vs1, d1, ds1, p1, q1, rfl, rfl, rfl, h1, r1⟩ := trodAll_cons r0
  obtain ⟨v2, vs2, d2, ds2, p2, q2, rfl, rfl, rfl, h2, r2⟩ := trodAll_cons r1
  obtain ⟨rfl, rfl, rfl⟩ := trodAll_nil r2
  obtain rfl : args = #[v0, v1, v2] := by cases args; simp_all
  obtain ⟨rfl, rfl⟩ := trodVars_none hV
  have k0 := h0
  have lt0 : ∀ x ∈ p0, x.block < W.heap.size := by obtain ⟨m, hm⟩ := k0; exact DataW.trod_lt m _ _ _ hm
  obtain ⟨A0, c0, l0, ev0, hc0, hr0⟩ := OT.trie (hval 0 24 v0 rfl rfl) h0
  subst ev0
  obtain ⟨a1, rfl, rfl, rfl, w1⟩ := open_int Try.underlying3 (hval 1 3 v1 rfl rfl) h1
  obtain ⟨a2, rfl, rfl, rfl, w2⟩ := open_int Try.underlying3 (hval 2 3 v2 rfl rfl) h2
  clear hA0 hval0 hsz0 hsz
  refine (laws_FnExactChanceBegins.walk Pure.FnExactChanceBegins W A0 c0 l0 hr0 hc0 a1 w1 a2 w2).mono fun e W' ⟨he, bel⟩ => ?_
  subst he
  exact ⟨_, rfl, _, _, _, [], _, [], hW', trodAll_mk1 (shut_bool Try.underlying4 _), (trodAll_cons_mk (Below.trod laidOut (by kernel_rfl) (of_decide_eq_true (by kernel_rfl)) k0 bel lt0) (trodAll_cons_mk (shut_int Try.underlying3 w1) (trodAll_cons_mk (shut_int Try.underlying3 w2) trodAll_mk0))), rfl, bel.frame _, fun h => by cases h⟩
theorem over : Rows.fnExactChanceBeginsRow.holds Try.pinned (OpenSpec.ofChange Rows.fnExactChanceBeginsSpec) :=
  OpenClaim.holds_of_wide 10 Try.f10 rfl rfl rfl rfl rfl rfl rfl ⟨rfl, rfl, rfl, rfl, rfl⟩ rfl rfl rfl rfl rfl (by kernel_rfl) Try.func10 (by kernel_rfl)
    (of_decide_eq_true (by kernel_rfl)) (by unfold Func.isWrapper; first | (rw [if_pos (by decide +kernel)]; kernel_rfl) | (rw [if_neg (by decide +kernel)]; exact ⟨rfl, rfl⟩))
    (fun os started H enc _ => lifted os started H enc)
theorem proved : Rows.FnExactChanceBeginsSaid := over
end Go.Proofs.Ytgagmodkjmegeaa.fnExactChanceBegins
namespace Go.Proofs.Ytgagmodkjmegeaa
/-- The row, under a short name, for the claim. -/
theorem fnExactChanceBegins_holds : Rows.FnExactChanceBeginsSaid := fnExactChanceBegins.proved
end Go.Proofs.Ytgagmodkjmegeaa
