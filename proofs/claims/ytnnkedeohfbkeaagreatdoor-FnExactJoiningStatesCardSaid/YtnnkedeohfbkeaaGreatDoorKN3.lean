/-
  Part 4 of what several laws reach in common: functions of the program, each with its contract, and plain lemmas.
  Conditions: those of the given statement, no others.
-/
import Derived.Test.YtnnkedeohfbkeaaGreatDoorKNW0
import Derived.WalkKit
import Derived.ProofKit
import Derived.OpenShut
import Derived.Shelf.Abstract
import Derived.Sort.Walk0
import Derived.Lib.SlicesCompact
import Derived.Test.YtnnkedeohfbkeaaGreatDoorKN0
import Derived.Test.YtnnkedeohfbkeaaGreatDoorKN2
import Derived.Test.YtnnkedeohfbkeaaGreatDoorKN1
set_option linter.unusedVariables false
set_option linter.unusedSimpArgs false
set_option maxHeartbeats 8000000
set_option maxRecDepth 100000
namespace Go.Proofs.YtnnkedeohfbkeaaGreatDoor.P
open Go.RowKit Go.Proofs.YtnnkedeohfbkeaaGreatDoorW.PrintWords Go.Proofs.YtnnkedeohfbkeaaGreatDoorW.PrintLast Go.Proofs.YtnnkedeohfbkeaaGreatDoorW.PrintMore
attribute [local go_sem] max2_int min2_int max_two min_two max_three min_three max_four min_four
namespace OM
open Go.ChangeShapes Go.WideShapes Go.Deep Go.ChangeAt Go.Joins OA
section
variable {H : Type} {enc : TypeId × Value → H} {w : World} {base : Nat} {spare : Nat → Bool} {held : Bool}
theorem edges {fuel : Nat} {v : Value} {x : DataW H × List MemPlace} (h : DataW.trod enc Tryz.prog w base spare held fuel 70 [v] = some x) :
  ∃ (A : Option Addr) (cap : Nat) (l : List S88), v = .slice A l.length cap ∧ l.length ≤ cap ∧ Kd.C k88 w A l.length l := by
 have hce : Tryz.prog.cellsOf 88 = 2 := by kernel_rfl
 have hci : Tryz.prog.cellsOf 3 = 1 := by kernel_rfl
 rcases open_slice Tryz.underlying70 h with e | ⟨a, len, cap, m, n, D, Pl, e, _, hl, hm, hmm, _, hi⟩
 ·
  obtain rfl : v = .slice none 0 0 := by simpa using e.1
  exact ⟨none, 0, [], rfl, Nat.le_refl _, ⟨rfl, by simp, fun h => absurd h (Nat.lt_irrefl _)⟩⟩
 obtain rfl : v = .slice (some a) len cap := by simpa using e
 have hex : ∀ i, i < len → ∃ x : S88, w.cell? (a.add (i * 2 + 0)) = some (.int .i64 x.f0) ∧ w.cell? (a.add (i * 2 + 1)) = some (.int .i64 x.f1) := by
  intro i hil
  obtain ⟨cs', hc, ht⟩ := hi i (by rw [hmm]; split <;> omega)
  rw [hce] at hc
  obtain ⟨_, hcl, hat⟩ := World.cells?_some hc
  obtain ⟨xs, m', _, _, _, hxl, hx⟩ := DataW.trod_array Tryz.underlying88 ht
  match cs', hcl with
  | [u0, u1], _ =>
   have h0 := hx 0 (by omega)
   have h1 := hx 1 (by omega)
   rw [hci, List.getElem?_eq_getElem (by omega)] at h0 h1
   obtain ⟨n0, e0, _, _⟩ := DataW.trod_int Tryz.underlying3 h0
   obtain ⟨n1, e1, _, _⟩ := DataW.trod_int Tryz.underlying3 h1
   have a0 := hat 0 (by omega)
   have a1 := hat 1 (by omega)
   rw [Go.Deep.add_add] at a0 a1
   have e0' : u0 = .int .i64 n0 := by simpa using e0
   have e1' : u1 = .int .i64 n1 := by simpa using e1
   subst e0' e1'
   exact ⟨⟨n0, n1⟩, a0, a1⟩
 obtain ⟨g, hg⟩ : ∃ g : Nat → S88, ∀ i, i < len → w.cell? (a.add (i * 2 + 0)) = some (.int .i64 (g i).f0) ∧ w.cell? (a.add (i * 2 + 1)) = some (.int .i64 (g i).f1) :=
  ⟨fun i => if h : i < len then Classical.choose (hex i h) else z88, fun i h => by simp only [dif_pos h]; exact Classical.choose_spec (hex i h)⟩
 refine ⟨some a, cap, (List.range len).map g, by simp, by simpa using hl, ⟨by simp, ?_, fun _ => ⟨a, rfl, fun j p hj => ?_⟩⟩⟩
 ·
  have : (maxLen : Nat) ≤ 9223372036854775807 := by decide
  simp; omega
 obtain ⟨hjl, rfl⟩ := List.getElem?_eq_some_iff.1 hj
 have hjl' : j < len := by simpa using hjl
 obtain ⟨c0, c1⟩ := hg j hjl'
 rw [List.getElem_map, List.getElem_range]
 refine ⟨_, rfl, k88_mk w (g j), fun i u hu => ?_⟩
 match i, hu with
 | 0, hu => obtain rfl := Option.some.inj hu; exact c0
 | 1, hu => obtain rfl := Option.some.inj hu; exact c1
theorem machine {r : Reach} {b0 : Nat} {v : Value} {d : DataW H} {p : List MemPlace}
  (hv : Value.okWide Tryz.prog w r b0 24 v) (h : DataW.Trod enc Tryz.prog w base spare held 24 v d p) :
  ∃ (A : Option Addr) (cap : Nat) (l : List S90), v = .agg #[.slice A l.length cap] ∧ l.length ≤ cap ∧ Kd.C k90 w A l.length l := by
 obtain ⟨v0, y0, n, rfl, h0⟩ := agg1 Tryz.underlying24 (by kernel_rfl) (by kernel_rfl) hv h
 rcases fields Tryz.underlying22 Tryz.underlying90 (by kernel_rfl) (by kernel_rfl) h0 with e | ⟨a, len, cap, e, hl, hm, hi⟩
 ·
  obtain rfl : v0 = .slice none 0 0 := by simpa using e
  exact ⟨none, 0, [], rfl, Nat.le_refl _, ⟨rfl, by simp, fun h => absurd h (Nat.lt_irrefl _)⟩⟩
 obtain rfl : v0 = .slice (some a) len cap := by simpa using e
 have hex : ∀ i, i < len → ∃ x : S90, ∃ A1 c1, w.cell? (a.add (i * 2 + 0)) = some (.bool x.f0) ∧ w.cell? (a.add (i * 2 + 1)) = some (.slice A1 x.f1.length c1) ∧ x.f1.length ≤ c1 ∧ Kd.C k88 w A1 x.f1.length x.f1 := by
  intro i hil
  obtain ⟨n, hf⟩ := hi i hil
  obtain ⟨u0, y0, c0, t0⟩ := hf 0 _ rfl
  obtain ⟨u1, y1, c1, t1⟩ := hf 1 _ rfl
  obtain ⟨b0, e0, _⟩ := DataW.trod_bool Tryz.underlying4 t0
  obtain ⟨A1, cap1, l1, e1, hc1, hr1⟩ := edges t1
  simp only [List.cons.injEq, and_true] at e0
  subst e0 e1
  exact ⟨⟨b0, l1⟩, A1, cap1, c0, c1, hc1, hr1⟩
 obtain ⟨g, hg⟩ : ∃ g : Nat → S90, ∀ i, i < len → ∃ A1 c1, w.cell? (a.add (i * 2 + 0)) = some (.bool (g i).f0) ∧ w.cell? (a.add (i * 2 + 1)) = some (.slice A1 (g i).f1.length c1) ∧ (g i).f1.length ≤ c1 ∧ Kd.C k88 w A1 (g i).f1.length (g i).f1 :=
  ⟨fun i => if h : i < len then Classical.choose (hex i h) else z90, fun i h => by simp only [dif_pos h]; exact Classical.choose_spec (hex i h)⟩
 refine ⟨some a, cap, (List.range len).map g, by simp, by simpa using hl, ⟨by simp, ?_, fun _ => ⟨a, rfl, fun j p hj => ?_⟩⟩⟩
 ·
  have : (maxLen : Nat) ≤ 9223372036854775807 := by decide
  simp; omega
 obtain ⟨hjl, rfl⟩ := List.getElem?_eq_some_iff.1 hj
 have hjl' : j < len := by simpa using hjl
 obtain ⟨A1, c1, d0, d1, d2, d3⟩ := hg j hjl'
 rw [List.getElem_map, List.getElem_range]
 refine ⟨_, rfl, k90_mk w (g j) d2 d3, fun i u hu => ?_⟩
 match i, hu with
 | 0, hu => obtain rfl := Option.some.inj hu; exact d0
 | 1, hu => obtain rfl := Option.some.inj hu; exact d1
end
end OM
end Go.Proofs.YtnnkedeohfbkeaaGreatDoor.P
namespace Go.Proofs.YtnnkedeohfbkeaaGreatDoor.P
open Go.RowKit Go.Proofs.YtnnkedeohfbkeaaGreatDoorW.PrintWords Go.Proofs.YtnnkedeohfbkeaaGreatDoorW.PrintLast Go.Proofs.YtnnkedeohfbkeaaGreatDoorW.PrintMore
open Go.Proofs.YtnnkedeohfbkeaaGreatDoorW.PrintWords renaming blk_frozen → bF_, blk_cell → bC_, below_set → bS_, blk_below → bB_, below_step → bT_, pw_below_drewN → bN_, below_size → bZ_, below_drew1 → bD_, below_alloc → bA_, blk_far → bR_, gate_callee → gC_, gate_dst → gD_, box_event → bE_, blk_drew → b1_, blk_put → bP_, blk_drewN → b2_, blk_alloc → b3_, blk_lt → bL_, cell_far → cF_
open Go.Proofs.YtnnkedeohfbkeaaGreatDoorW.PrintLast renaming any_of → aO_, i64_w → i6_, i32_w → i3_, take_ofW → tW_
open Go.Proofs.YtnnkedeohfbkeaaGreatDoorW.PrintWords.Kd renaming R_below → kB_, R_mono → kM_, R_far → kF_, R_reads' → kR_, R_types → kT_, R_slice → kS_, R_celln → kC_, R_alloc → k1_, R_drewN → k2_, R_drew → k3_, C_below → k4_, R_lower → k5_, R_ne → k6_, own_blk → k7_
open Go.Proofs.YtnnkedeohfbkeaaGreatDoorW.PrintWords.LeO renaming none → l0_, bind → l1_, ite → l2_, refl → l3_
open World renaming block_lt_of_cell? → wB_
open _root_.Option renaming bind_eq_some_iff → oB_
open _root_.ByteArray renaming empty → eB_
open List renaming setIfInBounds_toArray → sA_, set_cons_zero → sB_, set_cons_succ → sC_, map_toArray → sD_, map_cons → sE_, map_nil → sF_, length_drop → sG_, length_take → sH_
open Bool renaming true → ty, false → fy
open Aside0 renaming mk → aM_
attribute [local go_sem] max2_int min2_int max_two min_two max_three min_three max_four min_four
def spec_l7Words.f (k : Nat) (l0_0 : List (S72)) : Option (List ByteArray) := (spec_l7Walk.f k l0_0 0 (⟨#[]⟩ : ByteArray) 0).bind fun bt314 => (some bt314.1)
theorem spec_l7Words.mono : ∀ a0 k, LeO (spec_l7Words.f k a0) (spec_l7Words.f (k + 1) a0) := by
 intro a0 k
 unfold spec_l7Words.f
 repeat' with_reducible first | exact spec_l7Walk.mono _ _ _ _ _ | exact l3_ _ | exact l0_ _ | refine l2_ ?_ ?_ | refine l1_ ?_ (fun _ => ?_)
theorem spec_l7Words.calls (k : Nat) (A0_0 : Option Addr) (c0_0 : Nat) (l0_0 : List (S72)) (r : List ByteArray) (w : World) (hr0_0 : Kd.C k72 w A0_0 l0_0.length l0_0) (hc0_0 : l0_0.length ≤ c0_0) (h : spec_l7Words.f k l0_0 = some r) :
  Calls Tryz.prog 49 #[.agg #[.slice A0_0 l0_0.length c0_0]] w fun e w' => ∃ v0_ : Value, e = .returned (v0_) ∧ Kd.R Kd.string 9 w' w.heap.size (fun _ => True) v0_ r ∧ Below w.heap.size w w' := by
 have hu33 := Tryz.underlying33
 have HR0_0 := aM_ hr0_0
 have HC0_0 := aM_ hc0_0
 clear hr0_0 hc0_0
 have HB := aM_ (Below.refl w.heap.size w)
 have H : ((spec_l7Walk.f k l0_0 0 (⟨#[]⟩ : ByteArray) 0).bind fun bt314 => (some bt314.1)) = some r := h
 clear h
 replace H := oB_.mp H
 obtain ⟨⟨t314, t317⟩, A20, H⟩ := H
 try dsimp only at H
 have A2 := aM_ A20
 clear A20
 obtain rfl := Option.some.inj H
 go_enter Tryz.func49, Tryz.ntmps49
 go_wp2_with (first | (refine bx_ 1 #[.slice A0_0 l0_0.length c0_0] 33 ?_; intro gb313 hg w3 hbox hb; have BK313 := aM_ (hbox); have GW313 := gw_ hg HB; replace HB := b4_ HB hb; clear hb hbox hg; have hcz4_0 := c0_ BK313; have hfz4_0 := bF_ BK313.out 0) | (refine gs_ 7 Tryz.func69 #[.agg #[.slice A0_0 l0_0.length c0_0], .int .i64 0, .string (⟨#[]⟩ : ByteArray), .int .i64 0] ?_; (with_reducible refine (spec_l7Walk.calls k _ _ l0_0 0 (⟨#[]⟩ : ByteArray) 0 t314 t317 _ ?side1 HC0_0.out A2.out).mono ?_); (case side1 => repeat (first | exact (k4_ HR0_0.out HB.out) | with_reducible first | apply cA_ | apply cN_ | apply cD_)); rintro e w5 ⟨v315, rfl, ho0, hb⟩; refine ⟨_, rfl, ?_⟩; have HO316 := aM_ (k5_ ho0 (bZ_ HB.out)); replace BK313 := b5_ BK313 hb; replace HB := b4_ HB hb; (try clear hb); (try clear ho0)))
 go_ret
 exact ⟨_, by rfl, by exact HO316.out, by exact HB.out⟩
def laws_markIntA2S.aN (a1 : Int) : Nat → Int
 | 0 => a1
 | i + 1 => wrap64 (wrap64 (laws_markIntA2S.aN a1 i + 1) + 1)
def laws_markIntA2S.mN (l0 : List S88) (a1 : Int) : Nat → List S88
 | 0 => l0
 | i + 1 => (laws_markIntA2S.mN l0 a1 i).set i ⟨laws_markIntA2S.aN a1 i, wrap64 (laws_markIntA2S.aN a1 i + 1)⟩
theorem laws_markIntA2S.mN_length (l0 : List S88) (a1 : Int) : ∀ i, (laws_markIntA2S.mN l0 a1 i).length = l0.length
 | 0 => rfl
 | i + 1 => by rw [laws_markIntA2S.mN, List.length_set, laws_markIntA2S.mN_length l0 a1 i]
def laws_markIntA2S.f (l0 : List S88) (a1 : Int) : Option (Int × List S88) := if l0.length ≤ 1000000000 then some (laws_markIntA2S.aN a1 l0.length, laws_markIntA2S.mN l0 a1 l0.length) else none
def laws_markIntA2S.aJ (a : Int) : Nat → Int
 | 0 => a
 | j + 1 => wrap64 (laws_markIntA2S.aJ a j + 1)
def laws_markIntA2S.mJ (x : List S88) (i : Nat) (a : Int) : Nat → List S88
 | 0 => x
 | 1 => x.set i ⟨a, (rd_T88 x (i : Int)).f1⟩
 | _ => x.set i ⟨a, wrap64 (a + 1)⟩
theorem laws_markIntA2S.mJ_length (x : List S88) (i : Nat) (a : Int) : ∀ j, (laws_markIntA2S.mJ x i a j).length = x.length
 | 0 => rfl
 | 1 => List.length_set ..
 | _ + 2 => List.length_set ..
set_option maxHeartbeats 4000000 in
theorem laws_markIntA2S.calls (P0_ : Nat → Prop) (u9000_ : Value) (l0 : List S88) (a1 : Int) (r1 : Int) (r2 : List S88) (w0 w : World) (hB : Below w0.heap.size w0 w) (ho0 : Kd.R k88 88 w w0.heap.size P0_ u9000_ l0) (h : laws_markIntA2S.f l0 a1 = some (r1, r2)) :
  Calls Tryz.prog 87 #[u9000_, .int .i64 a1] w fun e w' => e = .returned (.int .i64 r1) ∧ Kd.R k88 88 w' w0.heap.size (fun k_ => (P0_ k_ ∨ w.heap.size ≤ k_)) u9000_ r2 ∧ Below w0.heap.size w0 w' ∧ Kept w w' (fun k_ => P0_ k_) := by
 unfold laws_markIntA2S.f at h
 by_cases hbig : l0.length ≤ 1000000000
 rotate_left
 ·
  rw [if_neg hbig] at h; cases h
 rw [if_pos hbig] at h
 simp only [Option.some.injEq, Prod.mk.injEq] at h
 obtain ⟨rfl, rfl⟩ := h
 obtain ⟨A0, c0, hv⟩ := kS_ ho0
 subst hv
 obtain ⟨n, hn⟩ : ∃ n, l0.length = n := ⟨_, rfl⟩
 have HN := aM_ hn
 have HO0 := aM_ (show Kd.R k88 88 w w0.heap.size (fun k_ => (P0_ k_ ∨ w.heap.size ≤ k_)) (.slice A0 l0.length c0) l0 from kM_ ho0 (fun k_ hk => (.inl hk)))
 have HK := aM_ (Kept.refl w (fun k_ => P0_ k_))
 have HP0 := aM_ ho0.1
 have HW0 := aM_ hB.size
 have HB := aM_ hB
 have HBIG := aM_ hbig
 rw [hn]
 rw [hn] at HO0
 clear hB ho0 hbig hn
 go_enter Tryz.func87, Tryz.ntmps87
 go_wp2_with fail
 go_loopg [1, 5] n (fun gg v1 v5 w' => ∃ i : Nat, i ≤ n ∧ n - i ≤ gg ∧ v1 = .int .i64 (laws_markIntA2S.aN a1 i) ∧ v5 = .int .i64 (i : Int) ∧ Aside0 (Kd.R k88 88 w' w0.heap.size (fun k_ => (P0_ k_ ∨ w.heap.size ≤ k_)) (.slice A0 n c0) (laws_markIntA2S.mN l0 a1 i)) ∧ Aside0 (Kept w w' (fun k_ => P0_ k_)) ∧ Aside0 (Below w0.heap.size w0 w'))
 case atStart => exact ⟨0, Nat.zero_le _, by omega, rfl, rfl, HO0, HK, HB⟩
 clear HO0 HK HB
 obtain ⟨i, hi, hg, rfl, rfl, HO, HK, HB⟩ := hrel
 by_cases hlt : i < n
 rotate_left
 ·
  have hltz : ¬ (i : Int) < (n : Int) := by omega
  obtain rfl : i = n := by omega
  go_wp2_with fail
  go_ret
  exact ⟨rfl, HO.out, HB.out, HK.out⟩
 have hltz : (i : Int) < (n : Int) := by omega
 obtain ⟨a, ha⟩ : ∃ a, a = laws_markIntA2S.aN a1 i := ⟨_, rfl⟩
 obtain ⟨x, hx⟩ : ∃ x, x = laws_markIntA2S.mN l0 a1 i := ⟨_, rfl⟩
 have HXL := aM_ (show x.length = n from by rw [hx, laws_markIntA2S.mN_length, HN.out])
 rw [← hx] at HO
 rw [← ha]
 have HAX := aM_ (And.intro ha hx)
 clear ha hx
 go_wp2_with fail
 go_loopg [1, 6] 2 (fun gg v1 v6 w' => ∃ j : Nat, j ≤ 2 ∧ 2 - j ≤ gg ∧ v1 = .int .i64 (laws_markIntA2S.aJ a j) ∧ v6 = .int .i64 (j : Int) ∧ Aside0 (Kd.R k88 88 w' w0.heap.size (fun k_ => (P0_ k_ ∨ w.heap.size ≤ k_)) (.slice A0 n c0) (laws_markIntA2S.mJ x i a j)) ∧ Aside0 (Kept w w' (fun k_ => P0_ k_)) ∧ Aside0 (Below w0.heap.size w0 w'))
 case atStart => exact ⟨0, Nat.zero_le _, by omega, rfl, rfl, HO, HK, HB⟩
 clear HO HK HB
 obtain ⟨j, hj, hgj, rfl, rfl, HO, HK, HB⟩ := hrel
 by_cases hlj : j < 2
 rotate_left
 ·
  have hljz : ¬ (j : Int) < 2 := by omega
  obtain rfl : j = 2 := by omega
  have HO2 := aM_ (show Kd.R k88 88 wr w0.heap.size (fun k_ => (P0_ k_ ∨ w.heap.size ≤ k_)) (.slice A0 n c0) (laws_markIntA2S.mN l0 a1 (i + 1)) from by
   obtain ⟨h1, h2⟩ := HAX.out
   have := HO.out
   rw [laws_markIntA2S.mN, ← h1, ← h2]
   exact this)
  have HA2 := aM_ (show laws_markIntA2S.aJ a 2 = laws_markIntA2S.aN a1 (i + 1) from by rw [laws_markIntA2S.aN, ← HAX.out.1]; rfl)
  clear HO
  go_wp2_with fail
  go_roundg (n - (i + 1))
  case measure => omega
  case rel => exact ⟨i + 1, by omega, by omega, by rw [HA2.out], (by have h9 := HBIG.out; have h8 := HN.out; congr 1; unfold wrap64; omega), HO2, HK, HB⟩
 have hljz : (j : Int) < 2 := by omega
 obtain ⟨go, co, eo, gb, gl, cl, HG⟩ := Kd.R_form HO.out (by rw [laws_markIntA2S.mJ_length, HXL.out]; omega)
 have HGO := aM_ (show ∀ k_, _ → _ from HO.out.1)
 injection eo with ea_ en_ ec_
 subst ea_
 have GB := aM_ gb
 clear gb gl HG en_ ec_
 obtain ⟨ce, hcl, hM, hcc, hfr⟩ := Kd.R_elem HO.out z88 (i : Int) (by omega) (by omega)
 obtain rfl := k88_openM hM
 have hx0 := hcc 0 _ rfl
 have hx1 := hcc 1 _ rfl
 have hf0 := hfr 0
 have hf1 := hfr 1
 simp only [show (k88).sz = 2 from rfl, Int.toNat_natCast, Nat.add_zero] at hx0 hx1 hf0 hf1
 clear hM hfr
 rcases (show j = 0 ∨ j = 1 from by omega) with rfl | rfl
 ·
  have HP := Kd.R_seg HO.out (i : Int) (by omega) hltz (seg := [.int .i64 a]) (j := 0) hcl hcc (show 1 ≤ 2 from by decide) (x' := (⟨a, (rd_T88 x (i : Int)).f1⟩ : S88)) (k88_mkM _ _ _ (⟨a, (rd_T88 x (i : Int)).f1⟩ : S88)) (fun _ hk => hk)
  have hmj : (laws_markIntA2S.mJ x i a 0).set (i : Int).toNat (⟨a, (rd_T88 x (i : Int)).f1⟩ : S88) = laws_markIntA2S.mJ x i a 1 := rfl
  rw [hmj] at HP
  have HP1 := aM_ HP
  clear HP hmj hcl hcc
  have hxc : wr.cell? ⟨go, i * 2, none⟩ = _ := hx0
  have hfc : wr.frozen? ⟨go, i * 2, none⟩ = false := hf0
  clear hx0 hx1 hf0 hf1
  have HJ := aM_ (show laws_markIntA2S.aJ a 0 = a from rfl)
  rw [HJ.out]
  clear HO HJ
  go_wp2_with (first | ((with_reducible refine gate_store (t := 3) (p := 22) rfl ?_); refine store_event (t := 3) (p := 22) (v := ?vo) (w1 := (wr.setCell ⟨go, i * 2, none⟩ (.int .i64 a))) ?hg ?ho ?hn ?hr ?_; (case ho => rfl); (case hg => rfl); (case hn => rfl); (case hr => (go_simp; done)); intro w10 hw; have hg : wr.grownBy w10 (some go) := (by rw [hw]; exact HP1.out.2); have HO := aM_ (show Kd.R k88 88 w10 w0.heap.size (fun k_ => (P0_ k_ ∨ w.heap.size ≤ k_)) (.slice (some ⟨go, 0, none⟩) n c0) (laws_markIntA2S.mJ x i a 1) from by rw [hw]; have h9 := HP1.out.1; exact h9); have n1_ := aM_ ((by rw [hw]; exact bS_ (HB.out) GB.out : Below w0.heap.size w0 w10)); have n2_ := aM_ (Kept.of_grown (S := (fun k_ => P0_ k_)) hg HK.out (fun k_ e_ => HGO.out k_ e_)); clear HB HK HP1; have HB := n1_; have HK := n2_; clear n1_ n2_ hg hw hxc hfc))
  go_roundg (2 - 1)
  case measure => omega
  case rel => exact ⟨1, by omega, by omega, rfl, rfl, HO, HK, HB⟩
 have HP := Kd.R_seg HO.out (i : Int) (by omega) hltz (seg := [.int .i64 (wrap64 (a + 1))]) (j := 1) hcl hcc (show 2 ≤ 2 from by decide) (x' := (⟨(rd_T88 (laws_markIntA2S.mJ x i a 1) (i : Int)).f0, wrap64 (a + 1)⟩ : S88)) (k88_mkM _ _ _ (⟨(rd_T88 (laws_markIntA2S.mJ x i a 1) (i : Int)).f0, wrap64 (a + 1)⟩ : S88)) (fun _ hk => hk)
 have hmj : (laws_markIntA2S.mJ x i a 1).set (i : Int).toNat (⟨(rd_T88 (laws_markIntA2S.mJ x i a 1) (i : Int)).f0, wrap64 (a + 1)⟩ : S88) = laws_markIntA2S.mJ x i a 2 := by
  show (x.set i _).set i _ = x.set i _
  rw [List.set_set]
  congr 2
  show ((x.set i _).getD (i : Int).toNat _).f0 = a
  rw [Int.toNat_natCast, List.getD_eq_getElem?_getD, List.getElem?_set_self (by rw [HXL.out]; exact hlt)]
  rfl
 rw [hmj] at HP
 have HP1 := aM_ HP
 clear HP hmj hcl hcc
 have hxc : wr.cell? ⟨go, i * 2 + 1, none⟩ = _ := hx1
 have hfc : wr.frozen? ⟨go, i * 2 + 1, none⟩ = false := hf1
 clear hx0 hx1 hf0 hf1
 have HJ := aM_ (show laws_markIntA2S.aJ a 1 = (wrap64 (a + 1)) from rfl)
 rw [HJ.out]
 clear HO HJ
 go_wp2_with (first | ((with_reducible refine gate_store (t := 3) (p := 22) rfl ?_); refine store_event (t := 3) (p := 22) (v := ?vo) (w1 := (wr.setCell ⟨go, i * 2 + 1, none⟩ (.int .i64 (wrap64 (a + 1))))) ?hg ?ho ?hn ?hr ?_; (case ho => rfl); (case hg => rfl); (case hn => rfl); (case hr => (go_simp; done)); intro w10 hw; have hg : wr.grownBy w10 (some go) := (by rw [hw]; exact HP1.out.2); have HO := aM_ (show Kd.R k88 88 w10 w0.heap.size (fun k_ => (P0_ k_ ∨ w.heap.size ≤ k_)) (.slice (some ⟨go, 0, none⟩) n c0) (laws_markIntA2S.mJ x i a 2) from by rw [hw]; have h9 := HP1.out.1; exact h9); have n1_ := aM_ ((by rw [hw]; exact bS_ (HB.out) GB.out : Below w0.heap.size w0 w10)); have n2_ := aM_ (Kept.of_grown (S := (fun k_ => P0_ k_)) hg HK.out (fun k_ e_ => HGO.out k_ e_)); clear HB HK HP1; have HB := n1_; have HK := n2_; clear n1_ n2_ hg hw hxc hfc))
 go_roundg (2 - 2)
 case measure => omega
 case rel => exact ⟨2, by omega, by omega, rfl, rfl, HO, HK, HB⟩
def laws_markStateS.go : (d i : Nat) → Int → List S72 → Option (Int × List S72)
 | 0, _, k, l => some (k, l)
 | d + 1, i, k, l => (laws_markIntA2S.f (rd_T72 l (i : Int)).f1 (wrap64 (k + 1))).bind fun p => laws_markStateS.go d (i + 1) p.1 (l.set i ⟨Int.tmod k 3 == 0, p.2⟩)
def laws_markStateS.f (l0 : List S72) (a1 : Int) : Option (Int × List S72) := if l0.length ≤ 1000000000 then laws_markStateS.go l0.length 0 a1 l0 else none
set_option maxHeartbeats 4000000 in
theorem laws_markStateS.calls (P0_ : Nat → Prop) (u9000_ : Value) (l0 : List S72) (a1 : Int) (r1 : Int) (r2 : List S72) (w0 w : World) (hB : Below w0.heap.size w0 w) (ho0 : Kd.S k72 72 w w0.heap.size P0_ u9000_ l0) (h : laws_markStateS.f l0 a1 = some (r1, r2)) :
  Calls Tryz.prog 54 #[u9000_, .int .i64 a1] w fun e w' => e = .returned (.int .i64 r1) ∧ Kd.S k72 72 w' w0.heap.size (fun k_ => (P0_ k_ ∨ w.heap.size ≤ k_)) u9000_ r2 ∧ Below w0.heap.size w0 w' ∧ Kept w w' (fun k_ => P0_ k_) := by
 unfold laws_markStateS.f at h
 by_cases hbig : l0.length ≤ 1000000000
 rotate_left
 ·
  rw [if_neg hbig] at h; cases h
 rw [if_pos hbig] at h
 obtain ⟨A0, c0, hv⟩ := Kd.S_slice ho0
 subst hv
 obtain ⟨n, hn⟩ : ∃ n, l0.length = n := ⟨_, rfl⟩
 rw [hn] at h
 have HQ := aM_ h
 have HNL := aM_ hn
 have HO0 := aM_ (show Kd.S k72 72 w w0.heap.size (fun k_ => (P0_ k_ ∨ w.heap.size ≤ k_)) (.slice A0 l0.length c0) l0 from Kd.S_mono ho0 (fun k_ hk => (.inl hk)))
 have HK := aM_ (Kept.refl w (fun k_ => P0_ k_))
 have HW0 := aM_ hB.size
 have HB := aM_ hB
 have hnb : n ≤ 1000000000 := by omega
 have HBIG := aM_ hnb
 rw [hn]
 rw [hn] at HO0
 clear hB ho0 hbig hn h
 go_enter Tryz.func54, Tryz.ntmps54
 go_wp2_with fail
 go_loopg [1, 5] n (fun gg v1 v5 w' => ∃ (i : Nat) (k : Int) (l : List S72), i ≤ n ∧ n - i ≤ gg ∧ v1 = .int .i64 k ∧ v5 = .int .i64 (i : Int) ∧ Aside0 (laws_markStateS.go (n - i) i k l = some (r1, r2)) ∧ Aside0 (l.length = n) ∧ Aside0 (Kd.S k72 72 w' w0.heap.size (fun k_ => (P0_ k_ ∨ w.heap.size ≤ k_)) (.slice A0 n c0) l) ∧ Aside0 (Kept w w' (fun k_ => P0_ k_)) ∧ Aside0 (Below w0.heap.size w0 w'))
 case atStart => exact ⟨0, a1, l0, Nat.zero_le _, by omega, rfl, rfl, HQ, HNL, HO0, HK, HB⟩
 clear HQ HNL HO0 HK HB
 obtain ⟨i, k, l, hi, hg, rfl, rfl, HQ, HNL, HO, HK, HB⟩ := hrel
 by_cases hlt : i < n
 rotate_left
 ·
  have hltz : ¬ (i : Int) < (n : Int) := by omega
  obtain rfl : i = n := by omega
  have hQ := HQ.out
  rw [Nat.sub_self, laws_markStateS.go] at hQ
  simp only [Option.some.injEq, Prod.mk.injEq] at hQ
  obtain ⟨rfl, rfl⟩ := hQ
  clear HQ
  go_wp2_with fail
  go_ret
  exact ⟨rfl, HO.out, HB.out, HK.out⟩
 have hltz : (i : Int) < (n : Int) := by omega
 obtain ⟨d, hd⟩ : ∃ d, n - i = d + 1 := ⟨n - i - 1, by omega⟩
 have HD := aM_ (show n - (i + 1) = d from by omega)
 have hQ := HQ.out
 rw [hd, laws_markStateS.go] at hQ
 clear hd
 obtain ⟨gS, cS, eS, _, _, _, _⟩ := Kd.S_form HO.out (by rw [HNL.out]; omega)
 injection eS with e1 e2 e3
 subst e1
 subst e3
 clear e2
 obtain ⟨x, hx⟩ : ∃ x, rd_T72 l (i : Int) = x := ⟨_, rfl⟩
 rw [hx] at hQ
 cases hm : laws_markIntA2S.f x.f1 (wrap64 (k + 1)) with
 | none => rw [hm] at hQ; cases hQ
 | some p =>
 rw [hm, Option.bind_some] at hQ
 obtain ⟨kp, y⟩ := p
 have HQ2 := aM_ hQ
 have HM := aM_ hm
 obtain ⟨b, hb⟩ : ∃ b, (Int.tmod k 3 == 0) = b := ⟨_, rfl⟩
 have HBB := aM_ hb
 obtain ⟨oki0, ce0, hcl0, hMe0, hcc0, hfr0, hoki0, hH0⟩ := Kd.S_elem HO.out z72 (i : Int) (by omega) hltz
 obtain ⟨u0, rfl, hR0⟩ := k72_openM hMe0
 have c00 := hcc0 0 _ rfl
 have f00 := hfr0 0
 rw [show (k72).sz = 2 from rfl, Int.toNat_natCast, Nat.add_zero] at c00 f00
 have hxx : (l.getD (i : Int).toNat z72) = x := hx
 rw [hxx] at hR0
 rw [Int.toNat_natCast] at hxx
 rw [hxx] at c00
 have hs0 := Kd.S_seg0 hH0 (by omega) hltz (seg := [.bool b]) (j := 0) (show 1 ≤ 2 from by decide) (x' := (⟨b, x.f1⟩ : S72)) (okp := oki0) (k72_mkM _ _ _ (⟨b, x.f1⟩ : S72) hR0) (fun _ hk => hk)
 rw [show (k72).sz = 2 from rfl, Int.toNat_natCast, Nat.add_zero] at hs0
 have HS0 := aM_ (show Kd.S k72 72 (wr.setCell ⟨gS, i * 2, none⟩ (.bool b)) w0.heap.size (fun k_ => (P0_ k_ ∨ w.heap.size ≤ k_)) (.slice (some ⟨gS, 0, none⟩) n c0) (l.set i ⟨b, x.f1⟩) from hs0.1)
 have hgS : (P0_ gS ∨ w.heap.size ≤ gS) := (Kd.S_R HO.out).1 gS (by simp [Value.ownBlock])
 have HK1 := aM_ (HK.out.setCell (p := ⟨gS, i * 2, none⟩) hgS (.bool b))
 have HB1 := aM_ (bS_ (j := i * 2) (v := .bool b) HB.out (Kd.R_base (Kd.S_R HO.out) gS (by simp [Value.ownBlock])))
 obtain ⟨oki, ce, hcl, hMe, hcc, hfr, hoki, hH⟩ := Kd.S_elem HS0.out z72 (i : Int) (by omega) hltz
 obtain ⟨ue, rfl, hR⟩ := k72_openM hMe
 have hgx : ((l.set i ⟨b, x.f1⟩).getD (i : Int).toNat z72) = ⟨b, x.f1⟩ := by
  rw [Int.toNat_natCast, List.getD_eq_getElem?_getD, List.getElem?_set_self (by rw [HNL.out]; exact hlt)]
  rfl
 rw [hgx] at hR hcc hH
 have c1 := hcc 1 _ rfl
 rw [show (k72).sz = 2 from rfl, Int.toNat_natCast] at c1
 have hec : (wr.setCell ⟨gS, i * 2, none⟩ (.bool b)).cell? ⟨gS, i * 2 + 1, none⟩ = some ue := c1
 have HC := aM_ (laws_markIntA2S.calls oki ue x.f1 (wrap64 (k + 1)) kp y w0 (wr.setCell ⟨gS, i * 2, none⟩ (.bool b)) HB1.out hR HM.out)
 have HH := aM_ hH
 have HOK := aM_ hoki
 have hcell0 : wr.cell? ⟨gS, i * 2, none⟩ = some (.bool x.f0) := c00
 have hfroz0 : wr.frozen? ⟨gS, i * 2, none⟩ = false := f00
 clear hQ hx hm hcl0 hMe0 hcc0 hfr0 hoki0 hH0 hR0 hs0 hgS hcl hMe hcc hfr hR hH hgx c1 c00 f00 hxx hoki HO HQ HM
 go_wp2_with fail
 refine HC.out.mono ?_
 clear HC hb
 rintro e w2 ⟨rfl, ho2, hb2, hk2⟩
 have HH2 := aM_ (Kd.H_kept (Kd.H_widen HH.out) hk2 (fun k _ hn hs => hn (.inl hs)))
 have HO2 := aM_ (show Kd.S k72 72 w2 w0.heap.size (fun k_ => (P0_ k_ ∨ w.heap.size ≤ k_)) (.slice (some ⟨gS, 0, none⟩) n c0) (l.set i ⟨b, y⟩) from by
  have h9 := Kd.H_back HH2.out (x' := (⟨b, y⟩ : S72)) (okp := fun k => oki k ∨ (wr.setCell ⟨gS, i * 2, none⟩ (.bool b)).heap.size ≤ k) (k72_mkM _ _ _ (⟨b, y⟩ : S72) ho2) (fun k hk => hk.imp_right fun h => ⟨.inr (Nat.le_trans HK1.out.1 h), h⟩)
  rw [Int.toNat_natCast, List.set_set] at h9
  exact h9)
 have HK2 := aM_ (HK1.out.then_ hk2 (fun k hk => (HOK.out k hk).1))
 have HB2 := aM_ hb2
 clear ho2 hb2 hk2 HH HH2 hcell0 hfroz0 hec HK1 HB1 HS0 HK HB
 go_wp2_with fail
 go_roundg (n - (i + 1))
 case measure => omega
 refine ⟨i + 1, kp, l.set i ⟨b, y⟩, by omega, by omega, rfl, by go_num, ⟨?_⟩, ⟨by rw [List.length_set]; exact HNL.out⟩, HO2, HK2, HB2⟩
 rw [HD.out]
 have h9 := HQ2.out
 rw [HBB.out] at h9
 exact h9
def laws_markMachine.f (l0_0 : List S72) (a1 : Int) : Option (Int × List S72) := laws_markStateS.f l0_0 a1
set_option maxHeartbeats 4000000 in
theorem laws_markMachine.calls (P0_0_ : Nat → Prop) (u9000_ : Value) (l0_0 : List S72) (a1 : Int) (r1 : Int) (r2 : List S72) (w0 w : World) (hB : Below w0.heap.size w0 w) (ho0_0 : Kd.S k72 72 w w0.heap.size P0_0_ u9000_ l0_0) (h : laws_markMachine.f l0_0 a1 = some (r1, r2)) :
  Calls Tryz.prog 19 #[.agg #[u9000_], .int .i64 a1] w fun e w' => e = .returned (.int .i64 r1) ∧ Kd.S k72 72 w' w0.heap.size (fun k_ => (P0_0_ k_ ∨ w.heap.size ≤ k_)) u9000_ r2 ∧ Below w0.heap.size w0 w' ∧ Kept w w' (fun k_ => P0_0_ k_) := by
 obtain ⟨A0, c0, hv⟩ := Kd.S_slice ho0_0
 subst hv
 have HC := aM_ (laws_markStateS.calls P0_0_ (.slice A0 l0_0.length c0) l0_0 a1 r1 r2 w0 (w.alloc (.cells #[.slice A0 l0_0.length c0] 33)) (hB.alloc hB.size _) (Kd.S_alloc ho0_0 _) h)
 have HBW := aM_ hB.size
 clear h ho0_0 hB
 go_enter Tryz.func19, Tryz.ntmps19
 go_wp2_with fail
 refine HC.out.mono ?_
 clear HC
 rintro e w2 ⟨rfl, ho, hb, hk⟩
 have HO := aM_ (Kd.S_mono (ok' := fun k_ => (P0_0_ k_ ∨ w.heap.size ≤ k_)) ho (fun k hk => hk.imp_right fun h => by simp at h; omega))
 have HB := aM_ hb
 have HK := aM_ ((Kept.alloc (Kept.refl w (fun k_ => P0_0_ k_)) (.cells #[.slice A0 l0_0.length c0] 33)).then_ hk (fun _ h => .inl h))
 clear ho hb hk
 go_wp2_with fail
 go_ret
 exact ⟨rfl, HO.out, HB.out, HK.out⟩
end Go.Proofs.YtnnkedeohfbkeaaGreatDoor.P
namespace Go.Proofs.YtnnkedeohfbkeaaGreatDoor.M
open Go.RowKit Go.Proofs.YtnnkedeohfbkeaaGreatDoorW.PrintWords
theorem wrap64_id {x : Int} (h0 : -9223372036854775808 ≤ x) (h1 : x ≤ 9223372036854775807) : wrap64 x = x := by unfold wrap64; omega
theorem wrap64_succ (n : Nat) (h : n < 4611686018427387904) : wrap64 ((n : Int) + 1) = ((n + 1 : Nat) : Int) := by rw [wrap64_id (by omega) (by omega)]; rfl
theorem rd_nat (xs : List Int) (n : Nat) : rd xs (n : Int) = xs.getD n 0 := by simp [rd]
theorem getD_lt {α : Type} (z : α) {xs : List α} {n : Nat} (h : n < xs.length) : xs.getD n z = xs[n] := by simp [List.getD_eq_getElem?_getD, h]
theorem drop_cons_getD {α : Type} (z : α) {xs : List α} {n : Nat} (h : n < xs.length) : xs.drop n = xs.getD n z :: xs.drop (n + 1) := by
 rw [getD_lt z h]; exact List.drop_eq_getElem_cons h
theorem take_succ_getD {α : Type} (z : α) {xs : List α} {n : Nat} (h : n < xs.length) : xs.take (n + 1) = xs.take n ++ [xs.getD n z] := by
 rw [getD_lt z h, List.take_succ_eq_append_getElem h]
theorem fill_set {α : Type} (z : α) (xs : List α) (n : Nat) (h : n < xs.length) (y : α) : (xs.take n ++ List.replicate (xs.length - n) y).set n (xs.getD n z) = xs.take (n + 1) ++ List.replicate (xs.length - (n + 1)) y := by
 have hl : (xs.take n).length = n := by simp; omega
 rw [List.set_append_right _ _ (by omega), hl, Nat.sub_self, show xs.length - n = (xs.length - (n + 1)) + 1 from by omega, List.replicate_succ, List.set_cons_zero, take_succ_getD z h, List.append_assoc]
 rfl
theorem Ev.some_bind {α β : Type} {a : α} {f : Nat → α → Option β} {r : β} (k : Ev (fun n => f n a) r) : Ev (fun n => (some a).bind fun t => f n t) r := k
theorem Ev.ifT {α : Type} {c : Prop} [Decidable c] {f g : Nat → Option α} {r : α} (h : c) (k : Ev f r) : Ev (fun n => if c then f n else g n) r := by simpa only [if_pos h] using k
theorem Ev.ifF {α : Type} {c : Prop} [Decidable c] {f g : Nat → Option α} {r : α} (h : ¬ c) (k : Ev g r) : Ev (fun n => if c then f n else g n) r := by simpa only [if_neg h] using k
def B (l : List UInt8) : ByteArray := ⟨l.toArray⟩
@[simp] theorem data_B (l : List UInt8) : (B l).data.toList = l := by simp [B]
@[simp] theorem toList_B (l : List UInt8) : (B l).toList = l := by rw [Go.ByteArray.toList_eq]; simp
@[simp] theorem size_B (l : List UInt8) : (B l).size = l.length := by rw [← ByteArray.size_data, ← Array.length_toList, data_B]
theorem B_data (a : ByteArray) : B a.data.toList = a := ByteArray.ext (by simp [B])
theorem eq_B {a : ByteArray} {l : List UInt8} (h : a.data.toList = l) : a = B l := by rw [← h, B_data]
@[simp] theorem append_B (l m : List UInt8) : B l ++ B m = B (l ++ m) := eq_B (by simp)
@[simp] theorem extract_B (l : List UInt8) (a b : Nat) : (B l).extract a b = B ((l.drop a).take (b - a)) := eq_B (by simp)
@[simp] theorem nil_B : (⟨#[]⟩ : ByteArray) = B [] := rfl
theorem bt_B (l : List UInt8) (n : Nat) (h : n < l.length) : bt (B l) (n : Int) = ((l.getD n 0).toNat : Int) := by
 have h2 : ((n : Int).toNat) < (B l).size := by simpa using h
 rw [bt, dif_pos h2, getD_lt 0 h]
 simp [B, ByteArray.getElem_eq_getElem_data]
def letterB (c : UInt8) : Bool := decide (97 ≤ c.toNat ∧ c.toNat ≤ 122)
end Go.Proofs.YtnnkedeohfbkeaaGreatDoor.M
namespace Go.Proofs.YtnnkedeohfbkeaaGreatDoor.M
abbrev Txt := List UInt8
theorem txt_irrefl (a : Txt) : ¬ a < a := List.lt_irrefl a
theorem txt_trans {a b c : Txt} (h : a < b) (k : b < c) : a < c := List.lt_trans h k
theorem txt_asymm {a b : Txt} (h : a < b) : ¬ b < a := fun k => txt_irrefl a (txt_trans h k)
theorem txt_tri {a b : Txt} (h : ¬ a < b) (k : ¬ b < a) : a = b := List.le_antisymm (List.not_lt.1 k) (List.not_lt.1 h)
def putL : List Txt → Txt → List Txt
 | [], w => [w]
 | x :: r, w => if x < w then x :: putL r w else if x = w then x :: r else w :: x :: r
def foundL : List Txt → Txt → Bool
 | [], _ => false
 | x :: r, w => if x < w then foundL r w else decide (x = w)
theorem putL_found : ∀ (l : List Txt) (w : Txt), foundL l w = true → putL l w = l
 | [], _, h => by simp [foundL] at h
 | x :: r, w, h => by
  by_cases h1 : x < w
  ·
   simp only [foundL, if_pos h1] at h; simp only [putL, if_pos h1, putL_found r w h]
  simp only [foundL, if_neg h1, decide_eq_true_eq] at h; simp only [putL, if_neg h1, if_pos h]
def Asc (l : List Txt) : Prop := l.Pairwise (· < ·)
theorem mem_putL : ∀ (l : List Txt) (w y : Txt), y ∈ putL l w ↔ y = w ∨ y ∈ l
 | [], w, y => by simp [putL]
 | x :: r, w, y => by
  by_cases h1 : x < w
  ·
   simp only [putL, if_pos h1, List.mem_cons, mem_putL r w y]
   constructor
   ·
    rintro (h | h | h)
    ·
     exact .inr (.inl h)
    ·
     exact .inl h
    exact .inr (.inr h)
   rintro (h | h | h)
   ·
    exact .inr (.inl h)
   ·
    exact .inl h
   exact .inr (.inr h)
  by_cases h2 : x = w
  ·
   simp only [putL, if_neg h1, if_pos h2, List.mem_cons]
   constructor
   ·
    exact fun h => .inr h
   rintro (h | h)
   ·
    exact .inl (h.trans h2.symm)
   exact h
  simp [putL, h1, h2]
theorem asc_putL : ∀ (l : List Txt) (w : Txt), Asc l → Asc (putL l w)
 | [], w, _ => by simp [putL, Asc]
 | x :: r, w, h => by
  unfold Asc at h ⊢
  rw [List.pairwise_cons] at h
  by_cases h1 : x < w
  ·
   simp only [putL, if_pos h1, List.pairwise_cons]
   refine ⟨fun y hy => ?_, asc_putL r w h.2⟩
   rcases (mem_putL r w y).1 hy with rfl | hy
   ·
    exact h1
   exact h.1 y hy
  by_cases h2 : x = w
  ·
   simp only [putL, if_neg h1, if_pos h2]; exact List.pairwise_cons.2 h
  simp only [putL, if_neg h1, if_neg h2, List.pairwise_cons]
  have hw : w < x := by
   by_cases h3 : w < x
   ·
    exact h3
   exact absurd (txt_tri h1 h3) h2
  refine ⟨fun y hy => ?_, h⟩
  rcases List.mem_cons.1 hy with rfl | hy
  ·
   exact hw
  exact txt_trans hw (h.1 y hy)
theorem asc_ext : ∀ (l m : List Txt), Asc l → Asc m → (∀ y, y ∈ l ↔ y ∈ m) → l = m
 | [], [], _, _, _ => rfl
 | [], y :: m, _, _, h => absurd ((h y).2 (by simp)) (by simp)
 | x :: l, [], _, _, h => absurd ((h x).1 (by simp)) (by simp)
 | x :: l, y :: m, hl, hm, h => by
  unfold Asc at hl hm
  rw [List.pairwise_cons] at hl hm
  have hxy : x = y := by
   rcases List.mem_cons.1 ((h x).1 (by simp)) with e | hx
   ·
    exact e
   rcases List.mem_cons.1 ((h y).2 (by simp)) with e | hy
   ·
    exact e.symm
   exact absurd (hm.1 x hx) (txt_asymm (hl.1 y hy))
  subst hxy
  rw [asc_ext l m hl.2 hm.2 ?_]
  intro z
  have := h z
  simp only [List.mem_cons] at this
  constructor
  ·
   intro hz
   rcases this.1 (.inr hz) with e | hz'
   ·
    exact absurd (hl.1 z hz) (by rw [e]; exact txt_irrefl _)
   exact hz'
  intro hz
  rcases this.2 (.inr hz) with e | hz'
  ·
   exact absurd (hm.1 z hz) (by rw [e]; exact txt_irrefl _)
  exact hz'
def setL (l : List Txt) : List Txt := l.foldl putL []
theorem foldl_putL_mem : ∀ (l acc : List Txt) (y : Txt), y ∈ l.foldl putL acc ↔ y ∈ l ∨ y ∈ acc
 | [], acc, y => by simp
 | x :: l, acc, y => by
  rw [List.foldl_cons, foldl_putL_mem l, mem_putL]
  simp only [List.mem_cons]
  constructor
  ·
   rintro (h | h | h)
   ·
    exact .inl (.inr h)
   ·
    exact .inl (.inl h)
   exact .inr h
  rintro ((h | h) | h)
  ·
   exact .inr (.inl h)
  ·
   exact .inl h
  exact .inr (.inr h)
theorem foldl_putL_asc : ∀ (l acc : List Txt), Asc acc → Asc (l.foldl putL acc)
 | [], _, h => h
 | _ :: l, acc, h => foldl_putL_asc l _ (asc_putL acc _ h)
theorem mem_setL (l : List Txt) (y : Txt) : y ∈ setL l ↔ y ∈ l := by simp [setL, foldl_putL_mem]
theorem asc_setL (l : List Txt) : Asc (setL l) := foldl_putL_asc l [] List.Pairwise.nil
theorem setL_of_asc {l : List Txt} (h : Asc l) : setL l = l := asc_ext _ _ (asc_setL l) h (mem_setL l)
theorem putL_length_le : ∀ (l : List Txt) (w : Txt), (putL l w).length ≤ l.length + 1
 | [], w => by simp [putL]
 | x :: r, w => by
  have := putL_length_le r w
  by_cases h1 : x < w
  ·
   simp only [putL, if_pos h1, List.length_cons]; omega
  by_cases h2 : x = w
  ·
   simp only [putL, if_neg h1, if_pos h2, List.length_cons]; omega
  simp only [putL, if_neg h1, if_neg h2, List.length_cons]; omega
end Go.Proofs.YtnnkedeohfbkeaaGreatDoor.M
namespace Go.Proofs.YtnnkedeohfbkeaaGreatDoor.P
open Go.RowKit Go.Proofs.YtnnkedeohfbkeaaGreatDoorW.PrintWords Go.Proofs.YtnnkedeohfbkeaaGreatDoorW.PrintLast Go.Proofs.YtnnkedeohfbkeaaGreatDoorW.PrintMore
open Go.Proofs.YtnnkedeohfbkeaaGreatDoorW.PrintWords renaming blk_frozen → bF_, blk_cell → bC_, below_set → bS_, blk_below → bB_, below_step → bT_, pw_below_drewN → bN_, below_size → bZ_, below_drew1 → bD_, below_alloc → bA_, blk_far → bR_, gate_callee → gC_, gate_dst → gD_, box_event → bE_, blk_drew → b1_, blk_put → bP_, blk_drewN → b2_, blk_alloc → b3_, blk_lt → bL_, cell_far → cF_
open Go.Proofs.YtnnkedeohfbkeaaGreatDoorW.PrintLast renaming any_of → aO_, i64_w → i6_, i32_w → i3_, take_ofW → tW_
open Go.Proofs.YtnnkedeohfbkeaaGreatDoorW.PrintWords.Kd renaming R_below → kB_, R_mono → kM_, R_far → kF_, R_reads' → kR_, R_types → kT_, R_slice → kS_, R_celln → kC_, R_alloc → k1_, R_drewN → k2_, R_drew → k3_, C_below → k4_, R_lower → k5_, R_ne → k6_, own_blk → k7_
open Go.Proofs.YtnnkedeohfbkeaaGreatDoorW.PrintWords.LeO renaming none → l0_, bind → l1_, ite → l2_, refl → l3_
open World renaming block_lt_of_cell? → wB_
open _root_.Option renaming bind_eq_some_iff → oB_
open _root_.ByteArray renaming empty → eB_
open List renaming setIfInBounds_toArray → sA_, set_cons_zero → sB_, set_cons_succ → sC_, map_toArray → sD_, map_cons → sE_, map_nil → sF_, length_drop → sG_, length_take → sH_
open Bool renaming true → ty, false → fy
open Aside0 renaming mk → aM_
attribute [local go_sem] max2_int min2_int max_two min_two max_three min_three max_four min_four
def spec_l2PutA.l0 : Nat → List ByteArray → ByteArray → Int → Option (List ByteArray)
 | 0, _, _, _ => none
 | k + 1, x0, x1, x5 => if x5 < (x0.length : Int) then (if 0 ≤ x5 then ((spec_l2Before.f k (rdOf eB_ x0 x5) x1).bind fun t115 => (if t115 = true then (spec_l2PutA.l0 k x0 x1 (wrap64 (x5 + 1))) else (if (rdOf eB_ x0 x5).toList = x1.toList then (none) else (if x5 ≤ (x0.length : Int) then ((spec_l2Own.f (x0.take (x5 : Int).toNat)).bind fun t118 => ((some (([x1] : List ByteArray) : List ByteArray)).bind fun y121 => (if t118.length + y121.length < 8796093022208 then ((some (t118 ++ y121 : List ByteArray)).bind fun y124 => (if y124.length + (x0.drop (x5 : Int).toNat).length < 8796093022208 then (some (y124 ++ (x0.drop (x5 : Int).toNat))) else (none))) else (none)))) else (none))))) else (none)) else (if 0 ≤ x5 then (if x5 ≤ (x0.length : Int) then ((spec_l2Own.f (x0.take (x5 : Int).toNat)).bind fun t132 => ((some (([x1] : List ByteArray) : List ByteArray)).bind fun y135 => (if t132.length + y135.length < 8796093022208 then ((some (t132 ++ y135 : List ByteArray)).bind fun y138 => (if y138.length + (x0.drop (x5 : Int).toNat).length < 8796093022208 then (some (y138 ++ (x0.drop (x5 : Int).toNat))) else (none))) else (none)))) else (none)) else (none))
def spec_l2PutA.f (k : Nat) (l0 : List ByteArray) (a1 : ByteArray) : Option (List ByteArray) := spec_l2PutA.l0 k l0 a1 0
theorem spec_l2PutA.mono_l : ∀ k, (∀ y0 y1 y2, LeO (spec_l2PutA.l0 k y0 y1 y2) (spec_l2PutA.l0 (k + 1) y0 y1 y2))
 | 0 => fun _ _ _ r h => by simp [spec_l2PutA.l0] at h
 | k + 1 => by
  have ih0 := spec_l2PutA.mono_l k
  intro y0 y1 y2
  unfold spec_l2PutA.l0
  repeat' with_reducible first | exact ih0 _ _ _ | exact spec_l2Before.mono _ _ _ | exact l3_ _ | exact l0_ _ | refine l2_ ?_ ?_ | refine l1_ ?_ (fun _ => ?_)
theorem spec_l2PutA.mono : ∀ a0 a1 k, LeO (spec_l2PutA.f k a0 a1) (spec_l2PutA.f (k + 1) a0 a1) := by
 intro a0 a1 k
 have ih0 := spec_l2PutA.mono_l k
 unfold spec_l2PutA.f
 repeat' with_reducible first | exact ih0 _ _ _ | exact spec_l2Before.mono _ _ _ | exact l3_ _ | exact l0_ _ | refine l2_ ?_ ?_ | refine l1_ ?_ (fun _ => ?_)
def spec_l2PutA.T6 : Bool × List (List Nat × List Nat) := (true, [([], []), ([], []), ([0, 1], [0, 1]), ([2], [2]), ([], []), ([4], [4]), ([3, 5, 3], [3, 5]), ([], []), ([], []), ([7, 8], [7, 8]), ([6, 9, 6], [6, 9]), ([10, 10, 0, 1, 2, 3, 4, 5, 6, 7, 8, 9, 10], [10])])
def spec_l2PutA.B6 : List Nat := [0, 0, 3, 7, 0, 16, 63, 0, 0, 384, 1023, 2047]
theorem spec_l2PutA.tab6 : rtab .any (opsOf Tryz.f78 6) = spec_l2PutA.T6 := by kernel_rfl
theorem spec_l2PutA.bits6 : waitsOk spec_l2PutA.T6.2 spec_l2PutA.B6 = true := by kernel_rfl
theorem spec_l2PutA.calls (k : Nat) (A0 : Option Addr) (c0 : Nat) (l0 : List ByteArray) (a1 : ByteArray) (r : List ByteArray) (w : World) (hr0 : Kd.C Kd.string w A0 l0.length l0) (hc0 : l0.length ≤ c0) (h : spec_l2PutA.f k l0 a1 = some r) :
  Calls Tryz.prog 78 #[.slice A0 l0.length c0, .string a1] w fun e w' => ∃ v0_ : Value, e = .returned (v0_) ∧ Kd.R Kd.string 9 w' w.heap.size (fun _ => True) v0_ r ∧ Below w.heap.size w w' := by
 have HR0 := aM_ hr0
 have HC0 := aM_ hc0
 clear hr0 hc0
 have HB := aM_ (Below.refl w.heap.size w)
 have H : (spec_l2PutA.l0 k l0 a1 0) = some r := h
 clear h
 have H' := aM_ H
 clear H
 go_enter Tryz.func78, Tryz.ntmps78
 go_wp2
 go_loopg [5] k (fun kq v5 w' => ∃ (x5_1 : Int), v5 = .int .i64 x5_1 ∧ Aside0 (spec_l2PutA.l0 kq l0 a1 x5_1 = some r) ∧ Aside0 (kq ≤ k) ∧ Aside0 (Below w.heap.size w w'))
 case atStart => exact ⟨(0), (by rfl), H', ⟨Nat.le_refl _⟩, ⟨HB.out⟩⟩
 clear H'
 try clear p2
 obtain ⟨x5_1, rfl, HA, HK1, HB⟩ := hrel
 cases gk with
 | zero => exact absurd HA.out (by simp [spec_l2PutA.l0])
 | succ k1 =>
  have H := HA.out
  clear HA
  simp only [spec_l2PutA.l0] at H
  by_cases c3 : x5_1 < (l0.length : Int)
  rotate_left
  ·
   rw [if_neg c3] at H
   have c3b0 := dF_ c3
   clear c3
   by_cases c25 : 0 ≤ x5_1
   rotate_left
   ·
    rw [if_neg c25] at H
    exact absurd H (by simp)
   rw [if_pos c25] at H
   have c25b0 := eq_true c25
   have c25b1 := dT_ c25
   clear c25
   by_cases c26 : x5_1 ≤ (l0.length : Int)
   rotate_left
   ·
    rw [if_neg c26] at H
    exact absurd H (by simp)
   rw [if_pos c26] at H
   have c26b0 := eq_true c26
   have c26b1 := dT_ c26
   clear c26
   replace H := oB_.mp H
   obtain ⟨t132, A270, H⟩ := H
   try dsimp only at H
   have A27 := aM_ A270
   clear A270
   obtain ⟨y135, hy135⟩ : ∃ y_ : List ByteArray, y_ = (([a1] : List ByteArray)) := ⟨_, rfl⟩
   replace H : (if t132.length + y135.length < 8796093022208 then ((some (t132 ++ y135 : List ByteArray)).bind fun y138 => (if y138.length + (l0.drop (x5_1 : Int).toNat).length < 8796093022208 then (some (y138 ++ (l0.drop (x5_1 : Int).toNat))) else (none))) else (none)) = some r := by (try rw [hy135]); first | with_reducible exact H | with_reducible exact oS_ H | exact H
   have Ny135 := aM_ hy135
   clear hy135
   by_cases c28 : t132.length + y135.length < 8796093022208
   rotate_left
   ·
    rw [if_neg c28] at H
    exact absurd H (by simp)
   rw [if_pos c28] at H
   have LMc28 := aM_ c28
   clear c28
   obtain ⟨y138, hy138⟩ : ∃ y_ : List ByteArray, y_ = (t132 ++ y135) := ⟨_, rfl⟩
   replace H : (if y138.length + (l0.drop (x5_1 : Int).toNat).length < 8796093022208 then (some (y138 ++ (l0.drop (x5_1 : Int).toNat))) else (none)) = some r := by (try rw [hy138]); first | with_reducible exact H | with_reducible exact oS_ H | exact H
   have Ny138 := aM_ hy138
   clear hy138
   have c29b0 := eq_true (oD_ ‹_› : 0 ≤ x5_1)
   have c30b0 := eq_true (oD_ ‹_› : x5_1 ≤ (l0.length : Int))
   by_cases c31 : y138.length + (l0.drop (x5_1 : Int).toNat).length < 8796093022208
   rotate_left
   ·
    rw [if_neg c31] at H
    exact absurd H (by simp)
   rw [if_pos c31] at H
   have LMc31 := aM_ c31
   clear c31
   obtain ⟨y142, hy142⟩ : ∃ y_ : List ByteArray, y_ = (y138 ++ (l0.drop (x5_1 : Int).toNat)) := ⟨_, rfl⟩
   replace H : (some y142) = some r := by (try rw [hy142]); first | with_reducible exact H | with_reducible exact oS_ H | exact H
   have Ny142 := aM_ hy142
   clear hy142
   obtain rfl := Option.some.inj H
   try go_wp2
   replace HB := aM_ (bD_ HB.out)
   obtain ⟨i033, hi033, _, hsz33, _⟩ := info_parts info9
   obtain ⟨hcut33, hA33, hC33⟩ := print_take_of (P := Tryz.prog) Value.string (⟨#[]⟩ : ByteArray) 51 9 .i64 Tryz.underlying51 hi033 hsz33 A0 c0 l0 x5_1 (oD_ ‹_›) (oD_ ‹_›) HC0.out
   have HR131 := aM_ (Kd.C_of_reads (h1 := fun _ => rfl) (hA33 _ (Kd.reads_of_C HR0.out)))
   have HC131 := aM_ hC33
   clear hA33 hC33 hi033 hsz33
   obtain ⟨i034, hi034, _, hsz34, _⟩ := info_parts info9
   obtain ⟨A34, hcut34, hA34, hC34⟩ := print_drop_of (P := Tryz.prog) Value.string (⟨#[]⟩ : ByteArray) 51 9 .i64 Tryz.underlying51 hi034 hsz34 A0 c0 l0 x5_1 (oD_ ‹_›) (oD_ ‹_›) HC0.out
   have HR141 := aM_ (Kd.C_of_reads (h1 := fun _ => rfl) (hA34 _ (Kd.reads_of_C HR0.out)))
   have HC141 := aM_ hC34
   clear hA34 hC34 hi034 hsz34
   refine start_ (n := 12) (S := fun w' => True) (ds := []) #[fy, fy, fy, fy, fy, fy, fy, fy, fy, fy, fy, fy] (by kernel_rfl) rfl rfl trivial (fun hHeld => ?_); refine with_tabW spec_l2PutA.tab6 spec_l2PutA.bits6 (fun HT_ HW_ => ?_)
   generalize wr.drew = w32 at HB HR131 HR141 hHeld ⊢
   refine pu_ HT_ 0 33 #[ty, fy, fy, fy, fy, fy, fy, fy, fy, fy, fy, fy] ?_
   refine pu_ HT_ 1 34 #[ty, ty, fy, fy, fy, fy, fy, fy, fy, fy, fy, fy] ?_
   refine pu_ HT_ 2 35 #[ty, ty, ty, fy, fy, fy, fy, fy, fy, fy, fy, fy] ?_
   refine pu_ HT_ 4 37 #[ty, ty, ty, fy, ty, fy, fy, fy, fy, fy, fy, fy] ?_
   refine pu_ HT_ 7 40 #[ty, ty, ty, fy, ty, fy, fy, ty, fy, fy, fy, fy] ?_
   refine pu_ HT_ 8 41 #[ty, ty, ty, fy, ty, fy, fy, ty, ty, fy, fy, fy] ?_
   refine pu_ HT_ 9 42 #[ty, ty, ty, fy, ty, fy, fy, ty, ty, ty, fy, fy] ?_
   refine join_ (σ := Value × Value) 3 #[ty, ty, ty, ty, ty, ty, fy, ty, ty, ty, fy, fy] (fun s_ => [(36, s_.1), (38, s_.2)]) (fun s_ w' => (Kd.R Kd.string 9 w' w.heap.size (fun k_ => some k_ ≠ (s_.2 : Value).ownBlock) s_.1 t132) ∧ (Kd.R Kd.string 9 w' w.heap.size (fun k_ => some k_ ≠ (s_.1 : Value).ownBlock) s_.2 y135) ∧ (Below w.heap.size w w')) ?_ ?_
   rotate_left
   ·
    intro hCont
    refine two_ (i := 3) (j := 5) (Ni := some 36) (Nj := some 38) #[ty, ty, ty, ty, ty, fy, fy, ty, ty, ty, fy, fy] #[ty, ty, ty, fy, ty, ty, fy, ty, ty, ty, fy, fy] rfl rfl rfl rfl (two_of HT_.out (by kernel_rfl)) (by decide) (by decide) (fun K hK => ?_) (fun K hK => ?_)
    ·
     skip
     refine goes_ Tryz.func104 (by kernel_rfl) rfl #[.slice A0 (l0.take (x5_1 : Int).toNat).length c0] (by rfl) rfl rfl (by (try simp only [sD_, sE_, sF_]); (rw [show (l0.take (x5_1 : Int).toNat).length = x5_1.toNat from (by rw [List.length_take]; have h_ : (x5_1 : Int) ≤ (l0.length : Int) := oD_ ‹_›; omega)] <;> rfl)) ?_
     with_reducible refine (spec_l2Own.calls _ _ (l0.take (x5_1 : Int).toNat) t132 _ ?side1 ?side2 A27.out).mono ?_
     (case side1 => repeat (first | exact (k4_ HR131.out HB.out) | with_reducible first | apply cA_ | apply cN_ | apply cD_))
     (case side2 => exact HC131.out)
     rintro e w35 ⟨v133, rfl, ho0, hb⟩
     refine ⟨_, rfl, ?_⟩
     have n0_ := aM_ (k5_ ho0 (bZ_ HB.out))
     have n1_ := b4_ HB hb
     clear HB
     have HO134 := n0_
     have HB := n1_
     clear n0_ n1_
     (try clear hb)
     (try clear ho0)
     refine hK.out _ _ trivial (fun hHeld => ?_)
     clear hK K
     refine norm_ (by show Act.put _ (some 36) _ = _; simp only [Act.put, sA_, sB_, sC_, i6_, i3_]; rfl) ?_
     refine one_ (i := 5) (N := some 38) #[ty, ty, ty, ty, ty, ty, fy, ty, ty, ty, fy, fy] rfl rfl (one_of HT_.out (by kernel_rfl)) (by decide) (fun K hK => ?_)
     refine Kd.R_lit_step Kd.string _ 9 ?hg (N := 38) ?hd (xs := ([a1] : List ByteArray)) (inner := [.string a1]) (ok := fun _ => True) (okp := fun _ => True) ?hr ?hp (fun _ hk => hk) trivial (Below.refl _ _) (Nat.le_refl _) (by simp) ?_; (case hd => rfl); (case hg => rfl); (case hr => (go_simp; done)); (case hp => exact (Reps.one (show Kd.M Kd.string _ _ _ a1 [.string a1] from rfl) (Reps.none _ _)))
     intro v136 w36 ho37 hb hg_ hnew_
     clear hg_ hnew_
     (rw [← Ny135.out] at ho37)
     have n0_ := aM_ (Kd.R_elder' HO134.out (Kd.R_base ho37) hb)
     have n1_ := aM_ (k5_ (Kd.R_new' ho37 (Kd.R_lt HO134.out)) (bZ_ HB.out))
     have n2_ := b4_ HB hb
     clear HO134
     clear HB
     have HO134 := n0_
     have HO137 := n1_
     have HB := n2_
     clear n0_ n1_ n2_
     clear hb ho37
     refine hK.out _ _ trivial (fun hHeld => ?_)
     clear hK K
     refine norm_ (by show Act.put _ (some 38) _ = _; simp only [Act.put, sA_, sB_, sC_, i6_, i3_]; rfl) ?_
     exact norm_ (by simp only [putAll, Act.put, sA_, sB_, sC_]) (hCont (v133, v136) _ ⟨(by exact kM_ HO134.out (fun _ hk => hk.2)), (by exact kM_ HO137.out (fun _ hk => hk.2)), HB.out⟩)
    skip
    refine Kd.R_lit_step Kd.string _ 9 ?hg (N := 38) ?hd (xs := ([a1] : List ByteArray)) (inner := [.string a1]) (ok := fun _ => True) (okp := fun _ => True) ?hr ?hp (fun _ hk => hk) trivial (Below.refl _ _) (Nat.le_refl _) (by simp) ?_; (case hd => rfl); (case hg => rfl); (case hr => (go_simp; done)); (case hp => exact (Reps.one (show Kd.M Kd.string _ _ _ a1 [.string a1] from rfl) (Reps.none _ _)))
    intro v136 w35 ho36 hb hg_ hnew_
    clear hg_ hnew_
    (rw [← Ny135.out] at ho36)
    have n0_ := aM_ (k5_ ho36 (bZ_ HB.out))
    have n1_ := b4_ HB hb
    clear HB
    have HO137 := n0_
    have HB := n1_
    clear n0_ n1_
    clear hb ho36
    refine hK.out _ _ trivial (fun hHeld => ?_)
    clear hK K
    refine norm_ (by show Act.put _ (some 38) _ = _; simp only [Act.put, sA_, sB_, sC_, i6_, i3_]; rfl) ?_
    refine one_ (i := 3) (N := some 36) #[ty, ty, ty, ty, ty, ty, fy, ty, ty, ty, fy, fy] rfl rfl (one_of HT_.out (by kernel_rfl)) (by decide) (fun K hK => ?_)
    refine goes_ Tryz.func104 (by kernel_rfl) rfl #[.slice A0 (l0.take (x5_1 : Int).toNat).length c0] (by rfl) rfl rfl (by (try simp only [sD_, sE_, sF_]); (rw [show (l0.take (x5_1 : Int).toNat).length = x5_1.toNat from (by rw [List.length_take]; have h_ : (x5_1 : Int) ≤ (l0.length : Int) := oD_ ‹_›; omega)] <;> rfl)) ?_
    with_reducible refine (spec_l2Own.calls _ _ (l0.take (x5_1 : Int).toNat) t132 _ ?side1 ?side2 A27.out).mono ?_
    (case side1 => repeat (first | exact (k4_ HR131.out HB.out) | with_reducible first | apply cA_ | apply cN_ | apply cD_))
    (case side2 => exact HC131.out)
    rintro e w37 ⟨v133, rfl, ho0, hb⟩
    refine ⟨_, rfl, ?_⟩
    have n0_ := aM_ (Kd.R_elder' HO137.out (Kd.R_base ho0) hb)
    have n1_ := aM_ (k5_ (Kd.R_new' ho0 (Kd.R_lt HO137.out)) (bZ_ HB.out))
    have n2_ := b4_ HB hb
    clear HO137
    clear HB
    have HO137 := n0_
    have HO134 := n1_
    have HB := n2_
    clear n0_ n1_ n2_
    (try clear hb)
    (try clear ho0)
    refine hK.out _ _ trivial (fun hHeld => ?_)
    clear hK K
    refine norm_ (by show Act.put _ (some 36) _ = _; simp only [Act.put, sA_, sB_, sC_, i6_, i3_]; rfl) ?_
    exact norm_ (by simp only [putAll, Act.put, sA_, sB_, sC_]) (hCont (v133, v136) _ ⟨(by exact kM_ HO134.out (fun _ hk => hk.2)), (by exact kM_ HO137.out (fun _ hk => hk.2)), HB.out⟩)
   rintro ⟨v133, v136⟩ w38 ⟨h0_, h1_, h2_⟩
   have n0_ : Aside0 (Kd.R Kd.string 9 w38 w.heap.size (fun k_ => some k_ ≠ (v136 : Value).ownBlock) v133 t132) := ⟨h0_⟩
   have n1_ : Aside0 (Kd.R Kd.string 9 w38 w.heap.size (fun k_ => some k_ ≠ (v133 : Value).ownBlock) v136 y135) := ⟨h1_⟩
   have n2_ : Aside0 (Below w.heap.size w w38) := ⟨h2_⟩
   clear HB
   clear h0_ h1_ h2_
   have HO134 := n0_
   have HO137 := n1_
   have HB := n2_
   clear n0_ n1_ n2_
   have hHeld := trivial
   obtain ⟨Ao40, co40, eo40⟩ := kS_ HO137.out
   (subst eo40)
   refine norm_ (a' := ?_) ?_ ?_
   rotate_left
   ·
    simp only [putAll, Act.put, sA_, sB_, sC_]
    rfl
   refine one_ (i := 6) (N := some 39) #[ty, ty, ty, ty, ty, ty, ty, ty, ty, ty, fy, fy] rfl rfl (one_of HT_.out (by kernel_rfl)) (by decide) (fun K hK => ?_)
   refine Kd.R_append_rows_step Kd.string (w0 := w) w.heap.size (by rfl) (.tmp 36) (.tmp 38) 51 9 (.string ⟨#[]⟩) 16 rfl Tryz.underlying51 info9 rfl (by decide) (by omega) v133 t132 y135 _ _ _ (fun k_ => some k_ ≠ (.slice Ao40 y135.length co40 : Value).ownBlock) (fun _ => False) rfl rfl ?aO ?aR (fun _ _ h => h) (fun _ h => h.elim) ?aF ?aB ?aS ?aL ?_
   (case aR => repeat (first | exact (kR_ HO137.out).2.2 | with_reducible first | apply cA_ | apply cN_ | apply cD_))
   (case aB => exact HB.out)
   (case aF => exact (fun k_ hk => Kd.fresh' (Kd.R_lt HO137.out) k_ hk))
   (case aO => exact HO134.out)
   (case aS => exact (bZ_ HB.out))
   (case aL => have := LMc28.out; omega)
   intro v139 w39 ho hb hg hat
   rw [← Ny138.out] at ho
   have n0_ := aM_ (Kd.R_after (ok := (fun _ => True)) (by exact kM_ HO137.out (fun _ hk => ⟨trivial, hk⟩)) hg hat)
   have n1_ := aM_ (hb)
   have n2_ := aM_ (ho)
   clear HO137
   clear HB
   clear HO134
   have HO137 := n0_
   have HB := n1_
   have HO140 := n2_
   clear n0_ n1_ n2_
   clear ho hb hg hat
   refine hK.out _ _ trivial (fun hHeld => ?_)
   clear hK K
   refine norm_ (by show Act.put _ (some 39) _ = _; simp only [Act.put, sA_, sB_, sC_, i6_, i3_]; rfl) ?_
   refine one_ (i := 10) (N := some 43) #[ty, ty, ty, ty, ty, ty, ty, ty, ty, ty, ty, fy] rfl rfl (one_of HT_.out (by kernel_rfl)) (by decide) (fun K hK => ?_)
   refine Kd.R_append_rows_step Kd.string (w0 := w) w.heap.size (by rfl) (.tmp 39) (.tmp 42) 51 9 (.string ⟨#[]⟩) 16 rfl Tryz.underlying51 info9 rfl (by decide) (by omega) v139 y138 (l0.drop (x5_1 : Int).toNat) _ _ _ (fun k_ => some k_ ≠ (.slice Ao40 y135.length co40 : Value).ownBlock) (fun _ => False) rfl rfl ?aO ?aR (fun _ _ h => h) (fun _ h => h.elim) ?aF ?aB ?aS ?aL ?_
   (case aR => (rw [← show (l0.drop (x5_1 : Int).toNat).length = (l0.length - x5_1.toNat) from List.length_drop]; repeat (first | exact (k4_ HR141.out HB.out) | with_reducible first | apply cA_ | apply cN_ | apply cD_)))
   (case aB => exact HB.out)
   (case aF => exact (fun k_ hk => Kd.fresh' (Kd.R_lt HO137.out) k_ hk))
   (case aO => exact HO140.out)
   (case aS => exact (bZ_ HB.out))
   (case aL => have := LMc31.out; have hlx_ := (show (l0.drop (x5_1 : Int).toNat).length = (l0.length - x5_1.toNat) from List.length_drop); omega)
   intro v143 w41 ho hb hg hat
   rw [← Ny142.out] at ho
   have n0_ := aM_ (Kd.R_after (ok := (fun _ => True)) HO137.out hg hat)
   have n1_ := aM_ (hb)
   have n2_ := aM_ (ho)
   clear HO137
   clear HB
   clear HO140
   have HO137 := n0_
   have HB := n1_
   have HO144 := n2_
   clear n0_ n1_ n2_
   clear ho hb hg hat
   refine hK.out _ _ trivial (fun hHeld => ?_)
   clear hK K
   refine norm_ (by show Act.put _ (some 43) _ = _; simp only [Act.put, sA_, sB_, sC_, i6_, i3_]; rfl) ?_
   refine pu_ HT_ 11 4 #[ty, ty, ty, ty, ty, ty, ty, ty, ty, ty, ty, ty] ?_
   refine done_ (done_of HT_.out (by kernel_rfl)) ?_
   try go_wp2
   go_ret
   exact ⟨_, by rfl, by exact kM_ HO144.out (fun _ hk => trivial), by exact HB.out⟩
  rw [if_pos c3] at H
  have c3b0 := dT_ c3
  clear c3
  by_cases c4 : 0 ≤ x5_1
  rotate_left
  ·
   rw [if_neg c4] at H
   exact absurd H (by simp)
  rw [if_pos c4] at H
  have c4b0 := dT_ c4
  clear c4
  replace H := oB_.mp H
  obtain ⟨t115, A50, H⟩ := H
  try dsimp only at H
  have A5 := aM_ A50
  clear A50
  by_cases c6 : t115 = true
  ·
   subst c6
   rw [if_pos rfl] at H
   have H' := aM_ H
   clear H
   have p114 : 0 ≤ (x5_1 : Int) := oD_ ‹_›
   have q114 : x5_1 < (l0.length : Int) := oD_ ‹_›
   obtain ⟨ad114, e114, hx114_0⟩ := Kd.at_string HR0.out x5_1 p114 q114
   cases e114
   replace hx114_0 := cb_ HB hx114_0
   replace p114 := eq_true p114
   replace q114 := eq_true q114
   go_wp2_with (first | (go_at_call 103; (with_reducible refine (spec_l2Before.calls k1 (rdOf eB_ l0 x5_1) a1 true _ A5.out).mono ?_); rintro e w' ⟨rfl, ⟨nd, rfl⟩⟩))
   go_roundg k1
   case measure => have := HK1.out; omega
   case rel => exact ⟨(wrap64 (x5_1 + 1)), (by rfl), H', ⟨by have := HK1.out; omega⟩, ⟨by repeat with_reducible first | exact HB.out | apply bA_ | apply bN_ | apply bD_⟩⟩
  replace c6 := Bool.eq_false_iff.mpr c6
  subst c6
  replace H : (if (rdOf eB_ l0 x5_1).toList = a1.toList then (none) else (if x5_1 ≤ (l0.length : Int) then ((spec_l2Own.f (l0.take (x5_1 : Int).toNat)).bind fun t118 => ((some (([a1] : List ByteArray) : List ByteArray)).bind fun y121 => (if t118.length + y121.length < 8796093022208 then ((some (t118 ++ y121 : List ByteArray)).bind fun y124 => (if y124.length + (l0.drop (x5_1 : Int).toNat).length < 8796093022208 then (some (y124 ++ (l0.drop (x5_1 : Int).toNat))) else (none))) else (none)))) else (none))) = some r := by rw [if_neg (show ¬ (false = true) by decide)] at H; exact H
  by_cases c7 : (rdOf eB_ l0 x5_1).toList = a1.toList
  ·
   rw [if_pos c7] at H
   exact absurd H (by simp)
  rw [if_neg c7] at H
  have c7b0 : ((rdOf eB_ l0 x5_1).toList == a1.toList) = false := beq_eq_false_iff_ne.mpr c7
  have c7b1 : ((rdOf eB_ l0 x5_1).toList != a1.toList) = true := bne_iff_ne.mpr c7
  have c8b0 := eq_true (oD_ ‹_› : 0 ≤ x5_1)
  by_cases c9 : x5_1 ≤ (l0.length : Int)
  rotate_left
  ·
   rw [if_neg c9] at H
   exact absurd H (by simp)
  rw [if_pos c9] at H
  have c9b0 := eq_true c9
  have c9b1 := dT_ c9
  clear c9
  replace H := oB_.mp H
  obtain ⟨t118, A100, H⟩ := H
  try dsimp only at H
  have A10 := aM_ A100
  clear A100
  obtain ⟨y121, hy121⟩ : ∃ y_ : List ByteArray, y_ = (([a1] : List ByteArray)) := ⟨_, rfl⟩
  replace H : (if t118.length + y121.length < 8796093022208 then ((some (t118 ++ y121 : List ByteArray)).bind fun y124 => (if y124.length + (l0.drop (x5_1 : Int).toNat).length < 8796093022208 then (some (y124 ++ (l0.drop (x5_1 : Int).toNat))) else (none))) else (none)) = some r := by (try rw [hy121]); first | with_reducible exact H | with_reducible exact oS_ H | exact H
  have Ny121 := aM_ hy121
  clear hy121
  by_cases c11 : t118.length + y121.length < 8796093022208
  rotate_left
  ·
   rw [if_neg c11] at H
   exact absurd H (by simp)
  rw [if_pos c11] at H
  have LMc11 := aM_ c11
  clear c11
  obtain ⟨y124, hy124⟩ : ∃ y_ : List ByteArray, y_ = (t118 ++ y121) := ⟨_, rfl⟩
  replace H : (if y124.length + (l0.drop (x5_1 : Int).toNat).length < 8796093022208 then (some (y124 ++ (l0.drop (x5_1 : Int).toNat))) else (none)) = some r := by (try rw [hy124]); first | with_reducible exact H | with_reducible exact oS_ H | exact H
  have Ny124 := aM_ hy124
  clear hy124
  have c12b0 := eq_true (oD_ ‹_› : 0 ≤ x5_1)
  have c13b0 := eq_true (oD_ ‹_› : x5_1 ≤ (l0.length : Int))
  by_cases c14 : y124.length + (l0.drop (x5_1 : Int).toNat).length < 8796093022208
  rotate_left
  ·
   rw [if_neg c14] at H
   exact absurd H (by simp)
  rw [if_pos c14] at H
  have LMc14 := aM_ c14
  clear c14
  obtain ⟨y128, hy128⟩ : ∃ y_ : List ByteArray, y_ = (y124 ++ (l0.drop (x5_1 : Int).toNat)) := ⟨_, rfl⟩
  replace H : (some y128) = some r := by (try rw [hy128]); first | with_reducible exact H | with_reducible exact oS_ H | exact H
  have Ny128 := aM_ hy128
  clear hy128
  obtain rfl := Option.some.inj H
  have p114 : 0 ≤ (x5_1 : Int) := oD_ ‹_›
  have q114 : x5_1 < (l0.length : Int) := oD_ ‹_›
  obtain ⟨ad114, e114, hx114_0⟩ := Kd.at_string HR0.out x5_1 p114 q114
  cases e114
  replace hx114_0 := cb_ HB hx114_0
  replace p114 := eq_true p114
  replace q114 := eq_true q114
  try go_wp2_with (first | (go_at_call 103; (with_reducible refine (spec_l2Before.calls k1 (rdOf eB_ l0 x5_1) a1 false _ A5.out).mono ?_); rintro e w' ⟨rfl, ⟨nd, rfl⟩⟩; have p116 : 0 ≤ (x5_1 : Int) := oD_ ‹_›; have q116 : x5_1 < (l0.length : Int) := oD_ ‹_›; obtain ⟨ad116, e116, hx116_0⟩ := Kd.at_string HR0.out x5_1 p116 q116; obtain rfl : ad114 = ad116 := (by injection e116); replace hx116_0 := cb_ HB hx116_0; replace p116 := eq_true p116; replace q116 := eq_true q116))
  (try (rw [drewN_self wr]; generalize hq_ : World.drewN wr _ = wr; have n0_ : Aside0 (Below w.heap.size w wr) := ⟨by rw [← hq_]; exact (by repeat with_reducible first | exact HB.out | apply bA_ | apply bN_ | apply bD_)⟩; clear HB hq_; have HB := n0_; clear n0_))
  replace HB := aM_ (bD_ HB.out)
  obtain ⟨i016, hi016, _, hsz16, _⟩ := info_parts info9
  obtain ⟨hcut16, hA16, hC16⟩ := print_take_of (P := Tryz.prog) Value.string (⟨#[]⟩ : ByteArray) 51 9 .i64 Tryz.underlying51 hi016 hsz16 (some ad114) c0 l0 x5_1 (oD_ ‹_›) (oD_ ‹_›) HC0.out
  have HR117 := aM_ (Kd.C_of_reads (h1 := fun _ => rfl) (hA16 _ (Kd.reads_of_C HR0.out)))
  have HC117 := aM_ hC16
  clear hA16 hC16 hi016 hsz16
  obtain ⟨i017, hi017, _, hsz17, _⟩ := info_parts info9
  obtain ⟨A17, hcut17, hA17, hC17⟩ := print_drop_of (P := Tryz.prog) Value.string (⟨#[]⟩ : ByteArray) 51 9 .i64 Tryz.underlying51 hi017 hsz17 (some ad114) c0 l0 x5_1 (oD_ ‹_›) (oD_ ‹_›) HC0.out
  have HR127 := aM_ (Kd.C_of_reads (h1 := fun _ => rfl) (hA17 _ (Kd.reads_of_C HR0.out)))
  have HC127 := aM_ hC17
  clear hA17 hC17 hi017 hsz17
  refine start_ (n := 12) (S := fun w' => True) (ds := []) #[fy, fy, fy, fy, fy, fy, fy, fy, fy, fy, fy, fy] (by kernel_rfl) rfl rfl trivial (fun hHeld => ?_); refine with_tabW spec_l2PutA.tab6 spec_l2PutA.bits6 (fun HT_ HW_ => ?_)
  generalize wr.drew = w15 at HB HR117 HR127 hHeld ⊢
  refine pu_ HT_ 0 33 #[ty, fy, fy, fy, fy, fy, fy, fy, fy, fy, fy, fy] ?_
  refine pu_ HT_ 1 34 #[ty, ty, fy, fy, fy, fy, fy, fy, fy, fy, fy, fy] ?_
  refine pu_ HT_ 2 35 #[ty, ty, ty, fy, fy, fy, fy, fy, fy, fy, fy, fy] ?_
  refine pu_ HT_ 4 37 #[ty, ty, ty, fy, ty, fy, fy, fy, fy, fy, fy, fy] ?_
  refine pu_ HT_ 7 40 #[ty, ty, ty, fy, ty, fy, fy, ty, fy, fy, fy, fy] ?_
  refine pu_ HT_ 8 41 #[ty, ty, ty, fy, ty, fy, fy, ty, ty, fy, fy, fy] ?_
  refine pu_ HT_ 9 42 #[ty, ty, ty, fy, ty, fy, fy, ty, ty, ty, fy, fy] ?_
  refine join_ (σ := Value × Value) 3 #[ty, ty, ty, ty, ty, ty, fy, ty, ty, ty, fy, fy] (fun s_ => [(36, s_.1), (38, s_.2)]) (fun s_ w' => (Kd.R Kd.string 9 w' w.heap.size (fun k_ => some k_ ≠ (s_.2 : Value).ownBlock) s_.1 t118) ∧ (Kd.R Kd.string 9 w' w.heap.size (fun k_ => some k_ ≠ (s_.1 : Value).ownBlock) s_.2 y121) ∧ (Below w.heap.size w w')) ?_ ?_
  rotate_left
  ·
   intro hCont
   refine two_ (i := 3) (j := 5) (Ni := some 36) (Nj := some 38) #[ty, ty, ty, ty, ty, fy, fy, ty, ty, ty, fy, fy] #[ty, ty, ty, fy, ty, ty, fy, ty, ty, ty, fy, fy] rfl rfl rfl rfl (two_of HT_.out (by kernel_rfl)) (by decide) (by decide) (fun K hK => ?_) (fun K hK => ?_)
   ·
    skip
    refine goes_ Tryz.func104 (by kernel_rfl) rfl #[.slice (some ad114) (l0.take (x5_1 : Int).toNat).length c0] (by rfl) rfl rfl (by (try simp only [sD_, sE_, sF_]); (rw [show (l0.take (x5_1 : Int).toNat).length = x5_1.toNat from (by rw [List.length_take]; have h_ : (x5_1 : Int) ≤ (l0.length : Int) := oD_ ‹_›; omega)] <;> rfl)) ?_
    with_reducible refine (spec_l2Own.calls _ _ (l0.take (x5_1 : Int).toNat) t118 _ ?side1 ?side2 A10.out).mono ?_
    (case side1 => repeat (first | exact (k4_ HR117.out HB.out) | with_reducible first | apply cA_ | apply cN_ | apply cD_))
    (case side2 => exact HC117.out)
    rintro e w18 ⟨v119, rfl, ho0, hb⟩
    refine ⟨_, rfl, ?_⟩
    have n0_ := aM_ (k5_ ho0 (bZ_ HB.out))
    have n1_ := b4_ HB hb
    clear HB
    have HO120 := n0_
    have HB := n1_
    clear n0_ n1_
    (try clear hb)
    (try clear ho0)
    refine hK.out _ _ trivial (fun hHeld => ?_)
    clear hK K
    refine norm_ (by show Act.put _ (some 36) _ = _; simp only [Act.put, sA_, sB_, sC_, i6_, i3_]; rfl) ?_
    refine one_ (i := 5) (N := some 38) #[ty, ty, ty, ty, ty, ty, fy, ty, ty, ty, fy, fy] rfl rfl (one_of HT_.out (by kernel_rfl)) (by decide) (fun K hK => ?_)
    refine Kd.R_lit_step Kd.string _ 9 ?hg (N := 38) ?hd (xs := ([a1] : List ByteArray)) (inner := [.string a1]) (ok := fun _ => True) (okp := fun _ => True) ?hr ?hp (fun _ hk => hk) trivial (Below.refl _ _) (Nat.le_refl _) (by simp) ?_; (case hd => rfl); (case hg => rfl); (case hr => (go_simp; done)); (case hp => exact (Reps.one (show Kd.M Kd.string _ _ _ a1 [.string a1] from rfl) (Reps.none _ _)))
    intro v122 w19 ho20 hb hg_ hnew_
    clear hg_ hnew_
    (rw [← Ny121.out] at ho20)
    have n0_ := aM_ (Kd.R_elder' HO120.out (Kd.R_base ho20) hb)
    have n1_ := aM_ (k5_ (Kd.R_new' ho20 (Kd.R_lt HO120.out)) (bZ_ HB.out))
    have n2_ := b4_ HB hb
    clear HO120
    clear HB
    have HO120 := n0_
    have HO123 := n1_
    have HB := n2_
    clear n0_ n1_ n2_
    clear hb ho20
    refine hK.out _ _ trivial (fun hHeld => ?_)
    clear hK K
    refine norm_ (by show Act.put _ (some 38) _ = _; simp only [Act.put, sA_, sB_, sC_, i6_, i3_]; rfl) ?_
    exact norm_ (by simp only [putAll, Act.put, sA_, sB_, sC_]) (hCont (v119, v122) _ ⟨(by exact kM_ HO120.out (fun _ hk => hk.2)), (by exact kM_ HO123.out (fun _ hk => hk.2)), HB.out⟩)
   skip
   refine Kd.R_lit_step Kd.string _ 9 ?hg (N := 38) ?hd (xs := ([a1] : List ByteArray)) (inner := [.string a1]) (ok := fun _ => True) (okp := fun _ => True) ?hr ?hp (fun _ hk => hk) trivial (Below.refl _ _) (Nat.le_refl _) (by simp) ?_; (case hd => rfl); (case hg => rfl); (case hr => (go_simp; done)); (case hp => exact (Reps.one (show Kd.M Kd.string _ _ _ a1 [.string a1] from rfl) (Reps.none _ _)))
   intro v122 w18 ho19 hb hg_ hnew_
   clear hg_ hnew_
   (rw [← Ny121.out] at ho19)
   have n0_ := aM_ (k5_ ho19 (bZ_ HB.out))
   have n1_ := b4_ HB hb
   clear HB
   have HO123 := n0_
   have HB := n1_
   clear n0_ n1_
   clear hb ho19
   refine hK.out _ _ trivial (fun hHeld => ?_)
   clear hK K
   refine norm_ (by show Act.put _ (some 38) _ = _; simp only [Act.put, sA_, sB_, sC_, i6_, i3_]; rfl) ?_
   refine one_ (i := 3) (N := some 36) #[ty, ty, ty, ty, ty, ty, fy, ty, ty, ty, fy, fy] rfl rfl (one_of HT_.out (by kernel_rfl)) (by decide) (fun K hK => ?_)
   refine goes_ Tryz.func104 (by kernel_rfl) rfl #[.slice (some ad114) (l0.take (x5_1 : Int).toNat).length c0] (by rfl) rfl rfl (by (try simp only [sD_, sE_, sF_]); (rw [show (l0.take (x5_1 : Int).toNat).length = x5_1.toNat from (by rw [List.length_take]; have h_ : (x5_1 : Int) ≤ (l0.length : Int) := oD_ ‹_›; omega)] <;> rfl)) ?_
   with_reducible refine (spec_l2Own.calls _ _ (l0.take (x5_1 : Int).toNat) t118 _ ?side1 ?side2 A10.out).mono ?_
   (case side1 => repeat (first | exact (k4_ HR117.out HB.out) | with_reducible first | apply cA_ | apply cN_ | apply cD_))
   (case side2 => exact HC117.out)
   rintro e w20 ⟨v119, rfl, ho0, hb⟩
   refine ⟨_, rfl, ?_⟩
   have n0_ := aM_ (Kd.R_elder' HO123.out (Kd.R_base ho0) hb)
   have n1_ := aM_ (k5_ (Kd.R_new' ho0 (Kd.R_lt HO123.out)) (bZ_ HB.out))
   have n2_ := b4_ HB hb
   clear HO123
   clear HB
   have HO123 := n0_
   have HO120 := n1_
   have HB := n2_
   clear n0_ n1_ n2_
   (try clear hb)
   (try clear ho0)
   refine hK.out _ _ trivial (fun hHeld => ?_)
   clear hK K
   refine norm_ (by show Act.put _ (some 36) _ = _; simp only [Act.put, sA_, sB_, sC_, i6_, i3_]; rfl) ?_
   exact norm_ (by simp only [putAll, Act.put, sA_, sB_, sC_]) (hCont (v119, v122) _ ⟨(by exact kM_ HO120.out (fun _ hk => hk.2)), (by exact kM_ HO123.out (fun _ hk => hk.2)), HB.out⟩)
  rintro ⟨v119, v122⟩ w21 ⟨h0_, h1_, h2_⟩
  have n0_ : Aside0 (Kd.R Kd.string 9 w21 w.heap.size (fun k_ => some k_ ≠ (v122 : Value).ownBlock) v119 t118) := ⟨h0_⟩
  have n1_ : Aside0 (Kd.R Kd.string 9 w21 w.heap.size (fun k_ => some k_ ≠ (v119 : Value).ownBlock) v122 y121) := ⟨h1_⟩
  have n2_ : Aside0 (Below w.heap.size w w21) := ⟨h2_⟩
  clear HB
  clear h0_ h1_ h2_
  have HO120 := n0_
  have HO123 := n1_
  have HB := n2_
  clear n0_ n1_ n2_
  have hHeld := trivial
  obtain ⟨Ao23, co23, eo23⟩ := kS_ HO123.out
  (subst eo23)
  refine norm_ (a' := ?_) ?_ ?_
  rotate_left
  ·
   simp only [putAll, Act.put, sA_, sB_, sC_]
   rfl
  refine one_ (i := 6) (N := some 39) #[ty, ty, ty, ty, ty, ty, ty, ty, ty, ty, fy, fy] rfl rfl (one_of HT_.out (by kernel_rfl)) (by decide) (fun K hK => ?_)
  refine Kd.R_append_rows_step Kd.string (w0 := w) w.heap.size (by rfl) (.tmp 36) (.tmp 38) 51 9 (.string ⟨#[]⟩) 16 rfl Tryz.underlying51 info9 rfl (by decide) (by omega) v119 t118 y121 _ _ _ (fun k_ => some k_ ≠ (.slice Ao23 y121.length co23 : Value).ownBlock) (fun _ => False) rfl rfl ?aO ?aR (fun _ _ h => h) (fun _ h => h.elim) ?aF ?aB ?aS ?aL ?_
  (case aR => repeat (first | exact (kR_ HO123.out).2.2 | with_reducible first | apply cA_ | apply cN_ | apply cD_))
  (case aB => exact HB.out)
  (case aF => exact (fun k_ hk => Kd.fresh' (Kd.R_lt HO123.out) k_ hk))
  (case aO => exact HO120.out)
  (case aS => exact (bZ_ HB.out))
  (case aL => have := LMc11.out; omega)
  intro v125 w22 ho hb hg hat
  rw [← Ny124.out] at ho
  have n0_ := aM_ (Kd.R_after (ok := (fun _ => True)) (by exact kM_ HO123.out (fun _ hk => ⟨trivial, hk⟩)) hg hat)
  have n1_ := aM_ (hb)
  have n2_ := aM_ (ho)
  clear HO123
  clear HB
  clear HO120
  have HO123 := n0_
  have HB := n1_
  have HO126 := n2_
  clear n0_ n1_ n2_
  clear ho hb hg hat
  refine hK.out _ _ trivial (fun hHeld => ?_)
  clear hK K
  refine norm_ (by show Act.put _ (some 39) _ = _; simp only [Act.put, sA_, sB_, sC_, i6_, i3_]; rfl) ?_
  refine one_ (i := 10) (N := some 43) #[ty, ty, ty, ty, ty, ty, ty, ty, ty, ty, ty, fy] rfl rfl (one_of HT_.out (by kernel_rfl)) (by decide) (fun K hK => ?_)
  refine Kd.R_append_rows_step Kd.string (w0 := w) w.heap.size (by rfl) (.tmp 39) (.tmp 42) 51 9 (.string ⟨#[]⟩) 16 rfl Tryz.underlying51 info9 rfl (by decide) (by omega) v125 y124 (l0.drop (x5_1 : Int).toNat) _ _ _ (fun k_ => some k_ ≠ (.slice Ao23 y121.length co23 : Value).ownBlock) (fun _ => False) rfl rfl ?aO ?aR (fun _ _ h => h) (fun _ h => h.elim) ?aF ?aB ?aS ?aL ?_
  (case aR => (rw [← show (l0.drop (x5_1 : Int).toNat).length = (l0.length - x5_1.toNat) from List.length_drop]; repeat (first | exact (k4_ HR127.out HB.out) | with_reducible first | apply cA_ | apply cN_ | apply cD_)))
  (case aB => exact HB.out)
  (case aF => exact (fun k_ hk => Kd.fresh' (Kd.R_lt HO123.out) k_ hk))
  (case aO => exact HO126.out)
  (case aS => exact (bZ_ HB.out))
  (case aL => have := LMc14.out; have hlx_ := (show (l0.drop (x5_1 : Int).toNat).length = (l0.length - x5_1.toNat) from List.length_drop); omega)
  intro v129 w24 ho hb hg hat
  rw [← Ny128.out] at ho
  have n0_ := aM_ (Kd.R_after (ok := (fun _ => True)) HO123.out hg hat)
  have n1_ := aM_ (hb)
  have n2_ := aM_ (ho)
  clear HO123
  clear HB
  clear HO126
  have HO123 := n0_
  have HB := n1_
  have HO130 := n2_
  clear n0_ n1_ n2_
  clear ho hb hg hat
  refine hK.out _ _ trivial (fun hHeld => ?_)
  clear hK K
  refine norm_ (by show Act.put _ (some 43) _ = _; simp only [Act.put, sA_, sB_, sC_, i6_, i3_]; rfl) ?_
  refine pu_ HT_ 11 4 #[ty, ty, ty, ty, ty, ty, ty, ty, ty, ty, ty, ty] ?_
  refine done_ (done_of HT_.out (by kernel_rfl)) ?_
  try go_wp2
  go_ret
  exact ⟨_, by rfl, by exact kM_ HO130.out (fun _ hk => trivial), by exact HB.out⟩
def spec_l2PutB.l0 : Nat → List ByteArray → ByteArray → Int → Option (List ByteArray)
 | 0, _, _, _ => none
 | k + 1, x0, x1, x5 => if x5 < (x0.length : Int) then (if 0 ≤ x5 then ((spec_l2Before.f k (rdOf eB_ x0 x5) x1).bind fun t146 => (if t146 = true then (spec_l2PutB.l0 k x0 x1 (wrap64 (x5 + 1))) else (if (rdOf eB_ x0 x5).toList = x1.toList then (some x0) else (none)))) else (none)) else (none)
def spec_l2PutB.f (k : Nat) (l0 : List ByteArray) (a1 : ByteArray) : Option (List ByteArray) := spec_l2PutB.l0 k l0 a1 0
theorem spec_l2PutB.mono_l : ∀ k, (∀ y0 y1 y2, LeO (spec_l2PutB.l0 k y0 y1 y2) (spec_l2PutB.l0 (k + 1) y0 y1 y2))
 | 0 => fun _ _ _ r h => by simp [spec_l2PutB.l0] at h
 | k + 1 => by
  have ih0 := spec_l2PutB.mono_l k
  intro y0 y1 y2
  unfold spec_l2PutB.l0
  repeat' with_reducible first | exact ih0 _ _ _ | exact spec_l2Before.mono _ _ _ | exact l3_ _ | exact l0_ _ | refine l2_ ?_ ?_ | refine l1_ ?_ (fun _ => ?_)
theorem spec_l2PutB.mono : ∀ a0 a1 k, LeO (spec_l2PutB.f k a0 a1) (spec_l2PutB.f (k + 1) a0 a1) := by
 intro a0 a1 k
 have ih0 := spec_l2PutB.mono_l k
 unfold spec_l2PutB.f
 repeat' with_reducible first | exact ih0 _ _ _ | exact spec_l2Before.mono _ _ _ | exact l3_ _ | exact l0_ _ | refine l2_ ?_ ?_ | refine l1_ ?_ (fun _ => ?_)
theorem spec_l2PutB.calls (k : Nat) (P0_ : Nat → Prop) (u9000_ : Value) (l0 : List ByteArray) (a1 : ByteArray) (r : List ByteArray) (w0 w : World) (hB : Below w0.heap.size w0 w) (ho0 : Kd.R Kd.string 9 w w0.heap.size P0_ u9000_ l0) (h : spec_l2PutB.f k l0 a1 = some r) :
  Calls Tryz.prog 78 #[u9000_, .string a1] w fun e w' => ∃ v0_ : Value, e = .returned (v0_) ∧ Kd.R Kd.string 9 w' w0.heap.size (fun k_ => (P0_ k_ ∨ w.heap.size ≤ k_)) v0_ r ∧ Below w0.heap.size w0 w' ∧ Kept w w' (fun k_ => P0_ k_) := by
 have HO0 := aM_ (show Kd.R Kd.string 9 w w0.heap.size (fun k_ => (P0_ k_ ∨ w.heap.size ≤ k_)) u9000_ l0 from kM_ ho0 (fun k_ hk => (.inl hk)))
 have HK := aM_ (Kept.refl w (fun k_ => P0_ k_))
 have HW0 := aM_ hB.size
 have HB := aM_ hB
 clear hB
 have H : (spec_l2PutB.l0 k l0 a1 0) = some r := h
 clear h
 have H' := aM_ H
 clear H
 go_enter Tryz.func78, Tryz.ntmps78
 go_wp2
 go_loopg [5] k (fun kq v5 w' => ∃ (x5_1 : Int), v5 = .int .i64 x5_1 ∧ Aside0 (spec_l2PutB.l0 kq l0 a1 x5_1 = some r) ∧ Aside0 (kq ≤ k) ∧ Aside0 (Kd.R Kd.string 9 w' w0.heap.size (fun k_ => (P0_ k_ ∨ w.heap.size ≤ k_)) u9000_ l0) ∧ Aside0 (Kept w w' (fun k_ => P0_ k_)) ∧ Aside0 (Below w0.heap.size w0 w'))
 case atStart => exact ⟨(0), (by rfl), H', ⟨Nat.le_refl _⟩, ⟨HO0.out⟩, ⟨by repeat (first | (with_reducible first | exact HK.out | apply Kept.alloc | apply Kept.drewN | apply Kept.drew) | exact HK.out)⟩, ⟨HB.out⟩⟩
 clear H'
 try clear p2
 obtain ⟨x5_1, rfl, HA, HK1, HO_0, HK, HB⟩ := hrel
 cases gk with
 | zero => exact absurd HA.out (by simp [spec_l2PutB.l0])
 | succ k1 =>
  have H := HA.out
  clear HA
  simp only [spec_l2PutB.l0] at H
  by_cases c3 : x5_1 < (l0.length : Int)
  rotate_left
  ·
   rw [if_neg c3] at H
   have c3b0 := dF_ c3
   clear c3
   exact absurd H (by simp)
  rw [if_pos c3] at H
  have c3b0 := dT_ c3
  clear c3
  by_cases c4 : 0 ≤ x5_1
  rotate_left
  ·
   rw [if_neg c4] at H
   exact absurd H (by simp)
  rw [if_pos c4] at H
  have c4b0 := dT_ c4
  clear c4
  replace H := oB_.mp H
  obtain ⟨t146, A50, H⟩ := H
  try dsimp only at H
  have A5 := aM_ A50
  clear A50
  by_cases c6 : t146 = true
  ·
   subst c6
   rw [if_pos rfl] at H
   have H' := aM_ H
   clear H
   obtain ⟨Ao7, co7, eo7⟩ := kS_ HO_0.out
   subst eo7
   have p145 : 0 ≤ (x5_1 : Int) := oD_ ‹_›
   have q145 : x5_1 < (l0.length : Int) := oD_ ‹_›
   obtain ⟨ad145, e145, hx145_0⟩ := Kd.at_string (kR_ HO_0.out).2.2 x5_1 p145 q145
   cases e145
   replace p145 := eq_true p145
   replace q145 := eq_true q145
   go_wp2_with (first | (go_at_call 103; (with_reducible refine (spec_l2Before.calls k1 (rdOf eB_ l0 x5_1) a1 true _ A5.out).mono ?_); rintro e w' ⟨rfl, ⟨nd, rfl⟩⟩))
   go_roundg k1
   case measure => have := HK1.out; omega
   case rel => exact ⟨(wrap64 (x5_1 + 1)), (by rfl), H', ⟨by have := HK1.out; omega⟩, ⟨by (with_reducible repeat (first | apply k1_ | apply k2_ | apply k3_)); exact HO_0.out⟩, ⟨by repeat (first | (with_reducible first | exact HK.out | apply Kept.alloc | apply Kept.drewN | apply Kept.drew) | exact HK.out)⟩, ⟨by repeat with_reducible first | exact HB.out | apply bA_ | apply bN_ | apply bD_⟩⟩
  replace c6 := Bool.eq_false_iff.mpr c6
  subst c6
  replace H : (if (rdOf eB_ l0 x5_1).toList = a1.toList then (some l0) else (none)) = some r := by rw [if_neg (show ¬ (false = true) by decide)] at H; exact H
  by_cases c8 : (rdOf eB_ l0 x5_1).toList = a1.toList
  ·
   rw [if_pos c8] at H
   have c8b0 : ((rdOf eB_ l0 x5_1).toList == a1.toList) = true := beq_iff_eq.mpr c8
   have c8b1 : ((rdOf eB_ l0 x5_1).toList != a1.toList) = false := bne_eq_false_iff_eq.mpr c8
   clear c8
   obtain rfl := Option.some.inj H
   obtain ⟨Ao9, co9, eo9⟩ := kS_ HO_0.out
   subst eo9
   have p145 : 0 ≤ (x5_1 : Int) := oD_ ‹_›
   have q145 : x5_1 < (l0.length : Int) := oD_ ‹_›
   obtain ⟨ad145, e145, hx145_0⟩ := Kd.at_string (kR_ HO_0.out).2.2 x5_1 p145 q145
   cases e145
   replace p145 := eq_true p145
   replace q145 := eq_true q145
   go_wp2_with (first | (go_at_call 103; (with_reducible refine (spec_l2Before.calls k1 (rdOf eB_ l0 x5_1) a1 false _ A5.out).mono ?_); rintro e w' ⟨rfl, ⟨nd, rfl⟩⟩; have p147 : 0 ≤ (x5_1 : Int) := oD_ ‹_›; have q147 : x5_1 < (l0.length : Int) := oD_ ‹_›; obtain ⟨ad147, e147, hx147_0⟩ := Kd.at_string (kR_ HO_0.out).2.2 x5_1 p147 q147; obtain rfl : ad145 = ad147 := (by injection e147); replace p147 := eq_true p147; replace q147 := eq_true q147))
   go_ret
   exact ⟨_, by rfl, by (with_reducible repeat (first | apply k1_ | apply k2_ | apply k3_)); exact HO_0.out, by repeat with_reducible first | exact HB.out | apply bA_ | apply bN_ | apply bD_, by repeat (first | (with_reducible first | exact HK.out | apply Kept.alloc | apply Kept.drewN | apply Kept.drew) | exact HK.out)⟩
  rw [if_neg c8] at H
  exact absurd H (by simp)
open Go.Proofs.YtnnkedeohfbkeaaGreatDoor.M
theorem spec_l2Put.before_loop (a b : Txt) (ha : a.length ≤ 4611686018427387900) : ∀ (d n : Nat), n + d = a.length → n ≤ b.length → Ev (fun k => spec_l2Before.l0 k (B a) (B b) (n : Int)) (decide (a.drop n < b.drop n)) := by
 have last : ∀ n : Nat, (n = a.length ∨ n = b.length) → n ≤ a.length → n ≤ b.length → Ev (fun k => spec_l2Before.j1 k (B a) (B b) (n : Int) false) (decide (a.drop n < b.drop n)) := by
  intro n h ha hb
  refine Ev.step (fun k => spec_l2Before.j1.eq_2 ..) (Ev.ifF (by simp) ?_)
  have : decide (((B a).size : Int) < ((B b).size : Int)) = decide (a.drop n < b.drop n) := by
   simp only [size_B]
   congr 1
   rcases h with rfl | rfl
   ·
    rw [List.drop_length]
    cases hd : b.drop a.length with
    | nil =>
     have : b.length ≤ a.length := by simpa using hd
     simp; omega
    | cons c t =>
     have : a.length < b.length := by
      have := congrArg List.length hd
      simp at this; omega
     simp; omega
   rw [List.drop_length]
   simp; omega
  rw [this]; exact Ev.now _
 intro d
 induction d with
 | zero =>
  intro n hn hb
  refine Ev.step (fun k => spec_l2Before.l0.eq_2 ..) (Ev.ifF (by simp; omega) ?_)
  exact last n (.inl (by omega)) (by omega) hb
 | succ d ih =>
  intro n hn hb
  have h1 : n < a.length := by omega
  refine Ev.step (fun k => spec_l2Before.l0.eq_2 ..) (Ev.ifT (by simp; omega) ?_)
  by_cases h2 : n < b.length
  rotate_left
  ·
   rw [show decide ((n : Int) < ((B b).size : Int)) = false from by simp; omega]
   exact last n (.inr (by omega)) (by omega) hb
  rw [show decide ((n : Int) < ((B b).size : Int)) = true from by simp; omega]
  refine Ev.step (fun k => spec_l2Before.j1.eq_2 ..) (Ev.ifT rfl (Ev.ifT (by omega) (Ev.ifT (by simp; omega) (Ev.ifT (by simp; omega) ?_))))
  simp only [bt_B a n h1, bt_B b n h2]
  rw [drop_cons_getD 0 h1, drop_cons_getD 0 h2]
  by_cases e : ((a.getD n 0).toNat : Int) = ((b.getD n 0).toNat : Int)
  ·
   have e2 : a.getD n 0 = b.getD n 0 := UInt8.toNat_inj.1 (by omega)
   refine Ev.ifT e ?_
   have := ih (n + 1) (by omega) (by omega)
   simp only [e2, List.cons_lt_cons_iff, UInt8.lt_irrefl, true_and, false_or]
   simpa only [wrap64_succ n (by omega)] using this
  refine Ev.ifF e ?_
  have e2 : a.getD n 0 ≠ b.getD n 0 := fun h => e (by rw [h])
  have : decide (((a.getD n 0).toNat : Int) < ((b.getD n 0).toNat : Int)) = decide (a.getD n 0 :: a.drop (n + 1) < b.getD n 0 :: b.drop (n + 1)) := by
   congr 1
   simp only [List.cons_lt_cons_iff, e2, false_and, or_false, UInt8.lt_iff_toNat_lt, eq_iff_iff]
   omega
  rw [this]; exact Ev.now _
theorem spec_l2Put.before_ev (a b : Txt) (ha : a.length ≤ 4611686018427387900) : Ev (fun k => spec_l2Before.f k (B a) (B b)) (decide (a < b)) := by
 simpa [spec_l2Before.f] using spec_l2Put.before_loop a b ha a.length 0 (by omega) (by omega)
theorem spec_l2Put.own_eq (l : List ByteArray) (h : l.length < 8796093022208) : spec_l2Own.f l = some l := by
 unfold spec_l2Own.f
 simp only [Option.bind_some, List.length_nil, Nat.zero_add, if_pos h, List.nil_append]
def spec_l2Put.okL (l : List Txt) : Prop := l.length ≤ 4294967296 ∧ ∀ x ∈ l, x.length ≤ 4611686018427387900
theorem spec_l2Put.getD_ok {l : List Txt} (h : spec_l2Put.okL l) (n : Nat) (hn : n < l.length) : (l.getD n []).length ≤ 4611686018427387900 := by
 rw [getD_lt [] hn]; exact h.2 _ (List.getElem_mem hn)
theorem spec_l2Put.rd_map (l : List Txt) (n : Nat) (h : n < l.length) : rdOf eB_ (l.map B) (n : Int) = B (l.getD n []) := by
 simp [rdOf, List.getD_eq_getElem?_getD, h]
theorem spec_l2Put.A_loop (l : List Txt) (w : Txt) (ok : spec_l2Put.okL l) : ∀ (d n : Nat), n + d = l.length → foundL (l.drop n) w = false → Ev (fun k => spec_l2PutA.l0 k (l.map B) (B w) (n : Int)) ((l.take n ++ putL (l.drop n) w).map B) := by
 have hl := ok.1
 have fin : ∀ n, n ≤ l.length → ∀ (g : Nat → Option (List ByteArray)), (∀ k, g k = ((spec_l2Own.f ((l.map B).take (n : Int).toNat)).bind fun t1 => ((some (([B w] : List ByteArray) : List ByteArray)).bind fun y1 => (if t1.length + y1.length < 8796093022208 then ((some (t1 ++ y1 : List ByteArray)).bind fun y2 => (if y2.length + ((l.map B).drop (n : Int).toNat).length < 8796093022208 then (some (y2 ++ ((l.map B).drop (n : Int).toNat))) else (none))) else (none))))) → Ev g ((l.take n ++ w :: l.drop n).map B) := by
  intro n hn g hg
  refine Ev.congr hg ?_
  rw [spec_l2Put.own_eq _ (by simp; omega)]
  simp only [Option.bind_some]
  refine Ev.ifT (by simp; omega) (Ev.ifT (by simp; omega) ?_)
  simpa [List.map_take, List.map_drop] using Ev.now ((l.take n ++ w :: l.drop n).map B)
 intro d
 induction d with
 | zero =>
  intro n hn hf
  refine Ev.step (fun k => spec_l2PutA.l0.eq_2 ..) (Ev.ifF (by simp; omega) (Ev.ifT (by omega) (Ev.ifT (by simp; omega) ?_)))
  rw [show putL (l.drop n) w = w :: l.drop n from by rw [List.drop_of_length_le (by omega)]; rfl]
  exact fin n (by omega) _ (fun _ => rfl)
 | succ d ih =>
  intro n hn hf
  have h1 : n < l.length := by omega
  refine Ev.step (fun k => spec_l2PutA.l0.eq_2 ..) (Ev.ifT (by simp; omega) (Ev.ifT (by omega) ?_))
  simp only [spec_l2Put.rd_map l n h1]
  refine Ev.bind (spec_l2Put.before_ev (l.getD n []) w (spec_l2Put.getD_ok ok n h1)) ?_
  rw [drop_cons_getD [] h1] at hf ⊢
  by_cases hlt : l.getD n [] < w
  ·
   simp only [foundL, if_pos hlt] at hf
   refine Ev.ifT (by simpa using hlt) ?_
   have := ih (n + 1) (by omega) hf
   rw [take_succ_getD [] h1] at this
   simpa only [wrap64_succ n (by omega), putL, if_pos hlt, List.append_assoc, List.singleton_append] using this
  simp only [foundL, if_neg hlt, decide_eq_false_iff_not] at hf
  refine Ev.ifF (by simpa using hlt) (Ev.ifF (by simpa using hf) (Ev.ifT (by simp; omega) ?_))
  rw [show putL (l.getD n [] :: l.drop (n + 1)) w = w :: l.drop n from by rw [drop_cons_getD [] h1]; simp only [putL, if_neg hlt, if_neg hf]]
  exact fin n (by omega) _ (fun _ => rfl)
theorem spec_l2Put.B_loop (l : List Txt) (w : Txt) (ok : spec_l2Put.okL l) : ∀ (d n : Nat), n + d = l.length → foundL (l.drop n) w = true → Ev (fun k => spec_l2PutB.l0 k (l.map B) (B w) (n : Int)) (l.map B) := by
 have hl := ok.1
 intro d
 induction d with
 | zero => intro n hn hf; rw [List.drop_of_length_le (by omega)] at hf; simp [foundL] at hf
 | succ d ih =>
  intro n hn hf
  have h1 : n < l.length := by omega
  refine Ev.step (fun k => spec_l2PutB.l0.eq_2 ..) (Ev.ifT (by simp; omega) (Ev.ifT (by omega) ?_))
  simp only [spec_l2Put.rd_map l n h1]
  refine Ev.bind (spec_l2Put.before_ev (l.getD n []) w (spec_l2Put.getD_ok ok n h1)) ?_
  rw [drop_cons_getD [] h1] at hf
  by_cases hlt : l.getD n [] < w
  ·
   simp only [foundL, if_pos hlt] at hf
   refine Ev.ifT (by simpa using hlt) ?_
   simpa only [wrap64_succ n (by omega)] using ih (n + 1) (by omega) hf
  simp only [foundL, if_neg hlt, decide_eq_true_eq] at hf
  exact Ev.ifF (by simpa using hlt) (Ev.ifT (by simpa using hf) (Ev.now _))
def spec_l2Put.f (l0 : List ByteArray) (a1 : ByteArray) : Option (List ByteArray) := if l0.length ≤ 4294967296 ∧ (l0.all fun x => decide (x.size ≤ 4611686018427387900)) = true then some ((putL (l0.map fun x => x.data.toList) a1.data.toList).map B) else none
theorem spec_l2Put.calls (P0_ : Nat → Prop) (u9000_ : Value) (l0 : List ByteArray) (a1 : ByteArray) (r : List ByteArray) (w0 w : World) (hB : Below w0.heap.size w0 w) (ho0 : Kd.R Kd.string 9 w w0.heap.size P0_ u9000_ l0) (h : spec_l2Put.f l0 a1 = some r) :
  Calls Tryz.prog 78 #[u9000_, .string a1] w fun e w' => ∃ v0_ : Value, e = .returned (v0_) ∧ Kd.R Kd.string 9 w' w0.heap.size (fun k_ => (P0_ k_ ∨ w.heap.size ≤ k_)) v0_ r ∧ Below w0.heap.size w0 w' ∧ Kept w w' (fun k_ => P0_ k_) := by
 unfold spec_l2Put.f at h
 by_cases hc : l0.length ≤ 4294967296 ∧ (l0.all fun x => decide (x.size ≤ 4611686018427387900)) = true
 rotate_left
 ·
  rw [if_neg hc] at h; cases h
 rw [if_pos hc] at h
 obtain ⟨l, hl⟩ : ∃ l, l = l0.map fun x => x.data.toList := ⟨_, rfl⟩
 have e0 : l0 = l.map B := by
  rw [hl, List.map_map]
  conv => lhs; rw [← List.map_id l0]
  exact List.map_congr_left fun x _ => (B_data x).symm
 have e1 : a1 = B a1.data.toList := (B_data a1).symm
 have ok : spec_l2Put.okL l := by
  refine ⟨by rw [hl]; simpa using hc.1, fun x hx => ?_⟩
  rw [hl] at hx
  obtain ⟨y, hy, rfl⟩ := List.mem_map.1 hx
  have := List.all_eq_true.1 hc.2 y hy
  simpa using this
 rw [← hl] at h
 have hr := Option.some.inj h
 cases hf : foundL l a1.data.toList with
 | true =>
  obtain ⟨k, hk⟩ := Ev.rounds (spec_l2Put.B_loop l a1.data.toList ok l.length 0 (by omega) (by simpa using hf))
  refine spec_l2PutB.calls k P0_ u9000_ l0 a1 r w0 w hB ho0 ?_
  rw [← hr, putL_found l _ hf, e0, e1]
  unfold spec_l2PutB.f
  simpa using hk
 | false =>
  obtain ⟨k, hk⟩ := Ev.rounds (spec_l2Put.A_loop l a1.data.toList ok l.length 0 (by omega) (by simpa using hf))
  obtain ⟨A, c, rfl, hlc, hC⟩ := Kd.R_reads ho0
  refine (spec_l2PutA.calls k A c l0 a1 r w hC hlc ?_).mono ?_
  ·
   rw [← hr, e0, e1]
   unfold spec_l2PutA.f
   simpa using hk
  rintro e w' ⟨v, rfl, hR, hb⟩
  exact ⟨v, rfl, k5_ (kM_ (Kd.R_bound hR) (fun k hk => .inr hk.2.1)) hB.size, hB.trans (hb.mono hB.size), Kept.of_below hb _⟩
mutual
def spec_l2Of.l0 : Nat → List ByteArray → List ByteArray → Int → Option ((List (S96)))
 | 0, _, _, _ => none
 | k + 1, x0, x3, x4 => if x4 < (x0.length : Int) then (spec_l2Of.l1 k x0 x3 x4 1) else (spec_l2Of.l2 k x0 x3 0 (([] : List (S96))))
def spec_l2Of.l1 : Nat → List ByteArray → List ByteArray → Int → Int → Option ((List (S96)))
 | 0, _, _, _, _ => none
 | k + 1, x0, x3, x4, x5 => if 0 ≤ x4 then (if x4 < (x0.length : Int) then (if x5 ≤ ((rdOf eB_ x0 x4).size : Int) then (if 0 ≤ x5 then ((spec_l2Put.f x3 ((rdOf eB_ x0 x4).extract 0 (x5 : Int).toNat)).bind fun t155 => (spec_l2Of.l1 k x0 t155 x4 (wrap64 (x5 + 1)))) else (none)) else (spec_l2Of.l0 k x0 x3 (wrap64 (x4 + 1)))) else (none)) else (none)
def spec_l2Of.l2 : Nat → List ByteArray → List ByteArray → Int → List (S96) → Option ((List (S96)))
 | 0, _, _, _, _ => none
 | k + 1, x0, x3, x7, x162000 => if x7 < (x3.length : Int) then (if 0 ≤ x7 then ((spec_l2Has.f k x0 (rdOf eB_ x3 x7)).bind fun t163 => (if x7 > 0 then (if 0 ≤ (wrap64 (((rdOf eB_ x3 x7).size : Int) - 1)) then (if (wrap64 (((rdOf eB_ x3 x7).size : Int) - 1)) < ((rdOf eB_ x3 x7).size : Int) then (if (wrap64 (((rdOf eB_ x3 x7).size : Int) - 1)) ≤ ((rdOf eB_ x3 x7).size : Int) then ((spec_l2Place.f k x3 ((rdOf eB_ x3 x7).extract 0 ((wrap64 (((rdOf eB_ x3 x7).size : Int) - 1)) : Int).toNat)).bind fun t165 => (if x162000.length < 5864062014805 then (spec_l2Of.l2 k x0 x3 (wrap64 (x7 + 1)) (x162000 ++ [(⟨((bt (rdOf eB_ x3 x7) (wrap64 (((rdOf eB_ x3 x7).size : Int) - 1))) - 97) % 256, t165, t163⟩ : S96)])) else (none))) else (none)) else (none)) else (none)) else (if x162000.length < 5864062014805 then (spec_l2Of.l2 k x0 x3 (wrap64 (x7 + 1)) (x162000 ++ [(⟨(-1), (-1), t163⟩ : S96)])) else (none)))) else (none)) else (some x162000)
end
def spec_l2Of.f (k : Nat) (l0 : List ByteArray) : Option ((List (S96))) := spec_l2Of.l0 k l0 (([(⟨#[]⟩ : ByteArray)] : List ByteArray)) 0
theorem spec_l2Of.mono_l : ∀ k, (∀ y0 y1 y2, LeO (spec_l2Of.l0 k y0 y1 y2) (spec_l2Of.l0 (k + 1) y0 y1 y2)) ∧ (∀ y0 y1 y2 y3, LeO (spec_l2Of.l1 k y0 y1 y2 y3) (spec_l2Of.l1 (k + 1) y0 y1 y2 y3)) ∧ (∀ y0 y1 y2 y3, LeO (spec_l2Of.l2 k y0 y1 y2 y3) (spec_l2Of.l2 (k + 1) y0 y1 y2 y3))
 | 0 => ⟨fun _ _ _ r h => by simp [spec_l2Of.l0] at h, fun _ _ _ _ r h => by simp [spec_l2Of.l1] at h, fun _ _ _ _ r h => by simp [spec_l2Of.l2] at h⟩
 | k + 1 => by
  obtain ⟨ih0, ih1, ih2⟩ := spec_l2Of.mono_l k
  refine ⟨?_, ?_, ?_⟩
  ·
   intro y0 y1 y2
   unfold spec_l2Of.l0
   repeat' with_reducible first | exact ih0 _ _ _ | exact ih1 _ _ _ _ | exact ih2 _ _ _ _ | exact spec_l2Has.mono _ _ _ | exact spec_l2Place.mono _ _ _ | exact l3_ _ | exact l0_ _ | refine l2_ ?_ ?_ | refine l1_ ?_ (fun _ => ?_)
  ·
   intro y0 y1 y2 y3
   unfold spec_l2Of.l1
   repeat' with_reducible first | exact ih0 _ _ _ | exact ih1 _ _ _ _ | exact ih2 _ _ _ _ | exact spec_l2Has.mono _ _ _ | exact spec_l2Place.mono _ _ _ | exact l3_ _ | exact l0_ _ | refine l2_ ?_ ?_ | refine l1_ ?_ (fun _ => ?_)
  intro y0 y1 y2 y3
  unfold spec_l2Of.l2
  repeat' with_reducible first | exact ih0 _ _ _ | exact ih1 _ _ _ _ | exact ih2 _ _ _ _ | exact spec_l2Has.mono _ _ _ | exact spec_l2Place.mono _ _ _ | exact l3_ _ | exact l0_ _ | refine l2_ ?_ ?_ | refine l1_ ?_ (fun _ => ?_)
theorem spec_l2Of.mono : ∀ a0 k, LeO (spec_l2Of.f k a0) (spec_l2Of.f (k + 1) a0) := by
 intro a0 k
 obtain ⟨ih0, ih1, ih2⟩ := spec_l2Of.mono_l k
 unfold spec_l2Of.f
 repeat' with_reducible first | exact ih0 _ _ _ | exact ih1 _ _ _ _ | exact ih2 _ _ _ _ | exact spec_l2Has.mono _ _ _ | exact spec_l2Place.mono _ _ _ | exact l3_ _ | exact l0_ _ | refine l2_ ?_ ?_ | refine l1_ ?_ (fun _ => ?_)
theorem spec_l2Of.calls (k : Nat) (A0 : Option Addr) (c0 : Nat) (l0 : List ByteArray) (r : List (S96)) (w : World) (hr0 : Kd.C Kd.string w A0 l0.length l0) (hc0 : l0.length ≤ c0) (h : spec_l2Of.f k l0 = some r) :
  Calls Tryz.prog 48 #[.slice A0 l0.length c0] w fun e w' => ∃ v0_ : Value, e = .returned (.agg #[v0_]) ∧ Kd.R k96 96 w' w.heap.size (fun _ => True) v0_ r ∧ Below w.heap.size w w' := by
 have hu28 := Tryz.underlying28
 have hu96 := Tryz.underlying96
 have HR0 := aM_ hr0
 have HC0 := aM_ hc0
 clear hr0 hc0
 have HB := aM_ (Below.refl w.heap.size w)
 have H : (spec_l2Of.l0 k l0 (([(⟨#[]⟩ : ByteArray)] : List ByteArray)) 0) = some r := h
 clear h
 obtain ⟨y150, hy150⟩ : ∃ y_ : List ByteArray, y_ = (([(⟨#[]⟩ : ByteArray)] : List ByteArray)) := ⟨_, rfl⟩
 replace H : (spec_l2Of.l0 k l0 y150 0) = some r := by (try rw [hy150]); first | with_reducible exact H | with_reducible exact oS_ H | exact H
 have Ny150 := aM_ hy150
 clear hy150
 have H' := aM_ H
 clear H
 go_enter Tryz.func48, Tryz.ntmps48
 go_wp2_with (first | (refine bx_ 2 #[.slice none 0 0] 28 ?_; intro gb149 hg w2 hbox hb; have BK149 := aM_ (hbox); have GW149 := gw_ hg HB; replace HB := b4_ HB hb; clear hb hbox hg) | ((with_reducible refine gD_ (N := 10) rfl ?_); refine Kd.R_lit Kd.string _ 9 ?hg (N := 10) ?hd (xs := ([(⟨#[]⟩ : ByteArray)] : List ByteArray)) (inner := [.string (⟨#[]⟩ : ByteArray)]) (ok := fun _ => True) (okp := fun _ => True) ?hr ?hp (fun _ hk => hk) trivial (Below.refl _ _) (Nat.le_refl _) (by simp) ?_; (case hd => rfl); (case hg => rfl); (case hr => (go_simp; done)); (case hp => exact (Reps.one (show Kd.M Kd.string _ _ _ (⟨#[]⟩ : ByteArray) [.string (⟨#[]⟩ : ByteArray)] from rfl) (Reps.none _ _))); intro v151 w3 ho4 hb hg_ hnew_; clear hg_ hnew_; (rw [← Ny150.out] at ho4); have HO152 := aM_ (k5_ ho4 (bZ_ HB.out)); replace BK149 := b5_ BK149 hb; replace HB := b4_ HB hb; clear hb ho4))
 go_loopg [3, 4] k (fun kq v3 v4 w' => ∃ (x3_1 : List ByteArray) (x4_1 : Int), v4 = .int .i64 x4_1 ∧ Aside0 (spec_l2Of.l0 kq l0 x3_1 x4_1 = some r) ∧ Aside0 (kq ≤ k) ∧ Aside0 (Kd.R Kd.string 9 w' w.heap.size (fun _ => True) v3 x3_1) ∧ Aside0 (w'.heap[gb149]? = some (.cells #[(.slice none 0 0)] 28 (0, 0))) ∧ Aside0 (Below w.heap.size w w'))
 case atStart => exact ⟨(y150), (0), (by rfl), H', ⟨Nat.le_refl _⟩, ⟨HO152.out⟩, ⟨BK149.out⟩, ⟨HB.out⟩⟩
 clear H'
 try clear p2
 obtain ⟨x3_1, x4_1, rfl, HA, HK1, HO_3, BK149, HB⟩ := hrel
 cases gk with
 | zero => exact absurd HA.out (by simp [spec_l2Of.l0])
 | succ k1 =>
  have H := HA.out
  clear HA
  simp only [spec_l2Of.l0] at H
  by_cases c5 : x4_1 < (l0.length : Int)
  ·
   rw [if_pos c5] at H
   have c5b0 := dT_ c5
   clear c5
   have H' := aM_ H
   clear H
   go_wp2
   go_loopg [3, 5] k1 (fun kq v3 v5 w' => ∃ (x3_2 : List ByteArray) (x5_2 : Int), v5 = .int .i64 x5_2 ∧ Aside0 (spec_l2Of.l1 kq l0 x3_2 x4_1 x5_2 = some r) ∧ Aside0 (kq ≤ k1) ∧ Aside0 (Kd.R Kd.string 9 w' w.heap.size (fun _ => True) v3 x3_2) ∧ Aside0 (w'.heap[gb149]? = some (.cells #[(.slice none 0 0)] 28 (0, 0))) ∧ Aside0 (Below w.heap.size w w'))
   case atStart => exact ⟨(x3_1), (1), (by rfl), H', ⟨Nat.le_refl _⟩, ⟨HO_3.out⟩, ⟨BK149.out⟩, ⟨HB.out⟩⟩
   clear H'
   try clear p2
   try clear c5b0
   try clear p2
   obtain ⟨x3_2, x5_2, rfl, HA, HK2, HO_3, BK149, HB⟩ := hrel
   cases gk with
   | zero => exact absurd HA.out (by simp [spec_l2Of.l1])
   | succ k2 =>
    have H := HA.out
    clear HA
    simp only [spec_l2Of.l1] at H
    by_cases c6 : 0 ≤ x4_1
    rotate_left
    ·
     rw [if_neg c6] at H
     exact absurd H (by simp)
    rw [if_pos c6] at H
    have c6b0 := dT_ c6
    clear c6
    by_cases c7 : x4_1 < (l0.length : Int)
    rotate_left
    ·
     rw [if_neg c7] at H
     exact absurd H (by simp)
    rw [if_pos c7] at H
    have c7b0 := dT_ c7
    clear c7
    by_cases c8 : x5_2 ≤ ((rdOf eB_ l0 x4_1).size : Int)
    rotate_left
    ·
     rw [if_neg c8] at H
     have c8b0 := dF_ c8
     clear c8
     have H' := aM_ H
     clear H
     have p153 : 0 ≤ (x4_1 : Int) := oD_ ‹_›
     have q153 : x4_1 < (l0.length : Int) := oD_ ‹_›
     obtain ⟨ad153, e153, hx153_0⟩ := Kd.at_string HR0.out x4_1 p153 q153
     cases e153
     replace hx153_0 := cb_ HB hx153_0
     replace p153 := eq_true p153
     replace q153 := eq_true q153
     go_wp2
     go_roundg k2
     case measure => have := HK1.out; have := HK2.out; omega
     case rel => exact ⟨(x3_2), (wrap64 (x4_1 + 1)), (by rfl), H', ⟨by have := HK1.out; have := HK2.out; omega⟩, ⟨HO_3.out⟩, ⟨BK149.out⟩, ⟨HB.out⟩⟩
    rw [if_pos c8] at H
    have c8b0 := dT_ c8
    clear c8
    by_cases c9 : 0 ≤ x5_2
    rotate_left
    ·
     rw [if_neg c9] at H
     exact absurd H (by simp)
    rw [if_pos c9] at H
    have c9b0 := eq_true c9
    have c9b1 := dT_ c9
    clear c9
    have c10b0 := eq_true (oD_ ‹_› : x5_2 ≤ ((rdOf eB_ l0 x4_1).size : Int))
    replace H := oB_.mp H
    obtain ⟨t155, A110, H⟩ := H
    try dsimp only at H
    have A11 := aM_ A110
    clear A110
    have H' := aM_ H
    clear H
    have p153 : 0 ≤ (x4_1 : Int) := oD_ ‹_›
    have q153 : x4_1 < (l0.length : Int) := oD_ ‹_›
    obtain ⟨ad153, e153, hx153_0⟩ := Kd.at_string HR0.out x4_1 p153 q153
    cases e153
    replace hx153_0 := cb_ HB hx153_0
    replace p153 := eq_true p153
    replace q153 := eq_true q153
    have p154 : 0 ≤ (x4_1 : Int) := oD_ ‹_›
    have q154 : x4_1 < (l0.length : Int) := oD_ ‹_›
    obtain ⟨ad154, e154, hx154_0⟩ := Kd.at_string HR0.out x4_1 p154 q154
    obtain rfl : ad153 = ad154 := (by injection e154)
    replace hx154_0 := cb_ HB hx154_0
    replace p154 := eq_true p154
    replace q154 := eq_true q154
    obtain ⟨Ao12, co12, eo12⟩ := kS_ HO_3.out
    subst eo12
    go_wp2_with (first | (refine gs_ 33 Tryz.func78 #[.slice Ao12 x3_2.length co12, .string ((rdOf eB_ l0 x4_1).extract 0 (x5_2 : Int).toNat)] ?_; (with_reducible refine (spec_l2Put.calls (fun k_ => some k_ = (.slice Ao12 x3_2.length co12 : Value).ownBlock) (.slice Ao12 x3_2.length co12) x3_2 ((rdOf eB_ l0 x4_1).extract 0 (x5_2 : Int).toNat) t155 w _ HB.out ?side2 A11.out).mono ?_); (case side2 => exact Kd.R_tight rfl HO_3.out); rintro e w13 ⟨v156, rfl, ho0, hb, hkp⟩; refine ⟨_, rfl, ?_⟩; have n0_ := aM_ (blk_kept BK149.out hkp (fun hs_ => (fun e_ => (k6_ HO_3.out BK149.out (by decide)) e_) hs_)); have n1_ := aM_ (kM_ (ok' := fun k_ => True) ho0 (fun k_ hk_ => trivial)); have n2_ := aM_ (hb); clear BK149; clear HB; clear HO_3; have BK149 := n0_; have HO157 := n1_; have HB := n2_; clear n0_ n1_ n2_; (try clear hb); (try clear hkp); (try clear ho0)))
    go_roundg k2
    case measure => have := HK1.out; have := HK2.out; omega
    case rel => exact ⟨(t155), (wrap64 (x5_2 + 1)), (by rfl), H', ⟨by have := HK1.out; have := HK2.out; omega⟩, ⟨HO157.out⟩, ⟨BK149.out⟩, ⟨HB.out⟩⟩
  rw [if_neg c5] at H
  have c5b0 := dF_ c5
  clear c5
  obtain ⟨y158, hy158⟩ : ∃ y_ : List (S96), y_ = (([] : List (S96))) := ⟨_, rfl⟩
  replace H : (spec_l2Of.l2 k1 l0 x3_1 0 y158) = some r := by (try rw [hy158]); first | with_reducible exact H | with_reducible exact oS_ H | exact H
  have Ny158 := aM_ hy158
  clear hy158
  have H' := aM_ H
  clear H
  go_wp2_with (first | ((with_reducible refine gD_ (N := 34) rfl ?_); refine Kd.R_lit k96 _ 96 ?hg (N := 34) ?hd (xs := ([] : List (S96))) (inner := []) (ok := fun _ => True) (okp := fun _ => True) ?hr ?hp (fun _ hk => hk) trivial (Below.refl _ _) (Nat.le_refl _) (by simp) ?_; (case hd => rfl); (case hg => rfl); (case hr => (go_simp; done)); (case hp => exact (Reps.none _ _)); intro v159 w14 ho15 hb hg_ hnew_; clear hg_ hnew_; (rw [← Ny158.out] at ho15); replace HO_3 := k9_ HO_3 hb; have HO160 := aM_ (k5_ ho15 (bZ_ HB.out)); replace BK149 := b5_ BK149 hb; replace HB := b4_ HB hb; clear hb ho15; obtain ⟨Ao16, co16, eo16⟩ := kS_ HO160.out; subst eo16) | (refine bx_ 6 #[.slice none 0 0] 28 ?_; intro gb161 hg w17 hbox hb; replace HO_3 := k9_ HO_3 hb; replace HO160 := k9_ HO160 hb; have BK161 := aM_ (hbox); have GW161 := gw_ hg HB; replace HB := b4_ HB hb; have NB149_161 := nb_ hg BK149; have NB161_149 := ns_ NB149_161; replace BK149 := b5_ BK149 hb; clear hb hbox hg; have hnb18 := NB161_149.out; have hnc18 := NB149_161.out; have hcz19_0 := c0_ BK161; have hfz19_0 := bF_ BK161.out 0))
  go_loopg [7] k1 (fun kq v7 w' => ∃ (x7_2 : Int) (x162000_2 : List (S96)) (u162000 : Value), v7 = .int .i64 x7_2 ∧ Aside0 (spec_l2Of.l2 kq l0 x3_1 x7_2 x162000_2 = some r) ∧ Aside0 (kq ≤ k1) ∧ Aside0 (Kd.R Kd.string 9 w' w.heap.size (fun _ => True) u3 x3_1) ∧ Aside0 (Kd.R k96 96 w' w.heap.size (fun _ => True) u162000 x162000_2) ∧ Aside0 (w'.heap[gb149]? = some (.cells #[(.slice none 0 0)] 28 (0, 0))) ∧ Aside0 (w'.heap[gb161]? = some (.cells #[u162000] 28 (0, 0))) ∧ Aside0 (Below w.heap.size w w'))
  case atStart => exact ⟨(0), (y158), (.slice Ao16 y158.length co16), (by rfl), H', ⟨Nat.le_refl _⟩, ⟨by exact kM_ (kG_ (kT_ HO_3.out BK161.out (by decide))) (fun _ hk => trivial)⟩, ⟨by exact kM_ (kG_ (kT_ HO160.out BK161.out (by decide))) (fun _ hk => trivial)⟩, ⟨by exact br_ NB149_161.out (BK149.out)⟩, ⟨by refine bP_ (cs := #[.slice none 0 0]) ?_ 0 _ rfl; exact BK161.out⟩, ⟨by repeat with_reducible first | exact HB.out | apply bA_ | apply bN_ | apply bD_ | refine bS_ ?_ (Aside0.out ‹_›)⟩⟩
  clear H'
  try clear p1
  try clear q1
  try clear hx1
  try clear p2
  try clear c5b0
  try clear c6b0
  try clear p6
  try clear c7b0
  try clear c8b0
  try clear c9b0
  try clear c9b1
  try clear c10b0
  try clear p15
  try clear q15
  try clear hx15
  try clear hcz19_0
  try clear hfz19_0
  try clear hx153_0
  try clear hx154_0
  try clear p153
  try clear p154
  try clear p2
  try clear q153
  try clear q154
  obtain ⟨x7_2, x162000_2, u162000, rfl, HA, HK2, HO_3, HO_162000, BK149, BK161, HB⟩ := hrel
  cases gk with
  | zero => exact absurd HA.out (by simp [spec_l2Of.l2])
  | succ k2 =>
   have H := HA.out
   clear HA
   simp only [spec_l2Of.l2] at H
   by_cases c20 : x7_2 < (x3_1.length : Int)
   rotate_left
   ·
    rw [if_neg c20] at H
    have c20b0 := dF_ c20
    clear c20
    obtain rfl := Option.some.inj H
    obtain ⟨Ao53, co53, eo53⟩ := kS_ HO_3.out
    subst eo53
    have hnb54 := NB161_149.out
    have hnc54 := NB149_161.out
    have hcz55_0 := c0_ BK161
    have hfz55_0 := bF_ BK161.out 0
    obtain ⟨Ao56, co56, eo56⟩ := kS_ HO_162000.out
    subst eo56
    have hcz57_0 := c0_ BK149
    have hfz57_0 := bF_ BK149.out 0
    go_wp2
    refine bodyPost_ret (results_cell_row rfl _ _ gb149 28 #[.slice Ao56 x162000_2.length co56] (0, 0) _ rfl (by refine bP_ (cs := #[.slice none 0 0]) ?_ 0 _ rfl; exact BK149.out) Tryz.underlying28 rfl (by kernel_rfl)) rfl ?_
    exact ⟨_, by rfl, by exact kM_ (kG_ (kT_ HO_162000.out BK149.out (by decide))) (fun _ hk => trivial), by repeat with_reducible first | exact HB.out | apply bA_ | apply bN_ | apply bD_ | refine bS_ ?_ (Aside0.out ‹_›)⟩
   rw [if_pos c20] at H
   have c20b0 := dT_ c20
   clear c20
   by_cases c21 : 0 ≤ x7_2
   rotate_left
   ·
    rw [if_neg c21] at H
    exact absurd H (by simp)
   rw [if_pos c21] at H
   have c21b0 := dT_ c21
   clear c21
   replace H := oB_.mp H
   obtain ⟨t163, A220, H⟩ := H
   try dsimp only at H
   have A22 := aM_ A220
   clear A220
   by_cases c23 : x7_2 > 0
   rotate_left
   ·
    rw [if_neg c23] at H
    have c23b0 := dF_ c23
    clear c23
    by_cases c42 : x162000_2.length < 5864062014805
    rotate_left
    ·
     rw [if_neg c42] at H
     exact absurd H (by simp)
    rw [if_pos c42] at H
    have LMc42 := aM_ c42
    clear c42
    obtain ⟨y169, hy169⟩ : ∃ y_ : List (S96), y_ = (x162000_2 ++ [(⟨(-1), (-1), t163⟩ : S96)]) := ⟨_, rfl⟩
    replace H : (spec_l2Of.l2 k2 l0 x3_1 (wrap64 (x7_2 + 1)) y169) = some r := by (try rw [hy169]); first | with_reducible exact H | with_reducible exact oS_ H | exact H
    have Ny169 := aM_ hy169
    clear hy169
    have H' := aM_ H
    clear H
    obtain ⟨Ao43, co43, eo43⟩ := kS_ HO_3.out
    subst eo43
    have p162 : 0 ≤ (x7_2 : Int) := oD_ ‹_›
    have q162 : x7_2 < (x3_1.length : Int) := oD_ ‹_›
    obtain ⟨ad162, e162, hx162_0⟩ := Kd.at_string (kR_ HO_3.out).2.2 x7_2 p162 q162
    cases e162
    replace p162 := eq_true p162
    replace q162 := eq_true q162
    go_wp2_with (first | (refine gs_ 48 Tryz.func79 #[.slice A0 l0.length c0, .string (rdOf eB_ x3_1 x7_2)] ?_; (with_reducible refine (spec_l2Has.calls k2 _ _ l0 (rdOf eB_ x3_1 x7_2) t163 _ ?side1 HC0.out A22.out).mono ?_); (case side1 => repeat (first | exact (k4_ HR0.out HB.out) | with_reducible first | apply cA_ | apply cN_ | apply cD_)); rintro e w' ⟨rfl, ⟨nd, rfl⟩⟩; refine ⟨_, rfl, ?_⟩; (try (rw [drewN_self wr]; generalize hq_ : World.drewN wr _ = wr; have n0_ : Aside0 (Kd.R k96 96 wr w.heap.size (fun _ => True) u162000 x162000_2) := ⟨by rw [← hq_]; exact (by (with_reducible repeat (first | apply k1_ | apply k2_ | apply k3_)); exact HO_162000.out)⟩; have n1_ : Aside0 (Kd.R Kd.string 9 wr w.heap.size (fun _ => True) (.slice (some ad162) x3_1.length co43) x3_1) := ⟨by rw [← hq_]; exact (by (with_reducible repeat (first | apply k1_ | apply k2_ | apply k3_)); exact HO_3.out)⟩; have n2_ : Aside0 (wr.heap[gb149]? = some (.cells #[.slice none 0 0] 28 (0, 0))) := ⟨by rw [← hq_]; exact (by (with_reducible repeat (first | refine b2_ ?_ _ | refine b1_ ?_ | refine b3_ ?_ _)); exact BK149.out)⟩; have n3_ : Aside0 (wr.heap[gb161]? = some (.cells #[u162000] 28 (0, 0))) := ⟨by rw [← hq_]; exact (by (with_reducible repeat (first | refine b2_ ?_ _ | refine b1_ ?_ | refine b3_ ?_ _)); exact BK161.out)⟩; have n4_ : Aside0 (Below w.heap.size w wr) := ⟨by rw [← hq_]; exact (by repeat with_reducible first | exact HB.out | apply bA_ | apply bN_ | apply bD_ | refine bS_ ?_ (Aside0.out ‹_›))⟩; clear HO_162000 HO_3 BK149 BK161 HB hq_; have HO_162000 := n0_; have HO_3 := n1_; have BK149 := n2_; have BK161 := n3_; have HB := n4_; clear n0_ n1_ n2_ n3_ n4_))) | (refine bx_ 9 #[.int .i64 0, .int .i64 0, .bool false] 96 ?_; intro gb164 hg w44 hbox hb; replace HO_3 := k9_ HO_3 hb; replace HO_162000 := aM_ (kB_ (Kd.R_elderB HO_162000.out gb164 (Nat.le_of_eq hg.symm)) hb); have BK164 := aM_ (hbox); have GW164 := gw_ hg HB; replace HB := b4_ HB hb; have NB149_164 := nb_ hg BK149; have NB164_149 := ns_ NB149_164; replace BK149 := b5_ BK149 hb; have NB161_164 := nb_ hg BK161; have NB164_161 := ns_ NB161_164; replace BK161 := b5_ BK161 hb; clear hb hbox hg; have hnb45 := NB164_149.out; have hnc45 := NB149_164.out; have hnb46 := NB164_161.out; have hnc46 := NB161_164.out; have hcz47_0 := c0_ BK164; have hcz47_1 := c1_ BK164; have hcz47_2 := c2_ BK164; have hfz47_0 := bF_ BK164.out 0; have hfz47_1 := bF_ BK164.out 1; have hfz47_2 := bF_ BK164.out 2; have hnb48 := NB161_149.out; have hnc48 := NB149_161.out; have hcz49_0 := c0_ BK161; have hfz49_0 := bF_ BK161.out 0) | ((with_reducible refine gate_builtin (b := .append) (xs := #[.tmp 69, .tmp 71]) rfl ?_); at_builtin; refine Kd.R_append k96 (w0 := w) w.heap.size rfl (.tmp 69) (.tmp 71) 26 96 (.agg #[(.int .i64 0), (.int .i64 0), (.bool false)]) 24 rfl Tryz.underlying26 info96 rfl (by decide) (by omega) u162000 x162000_2 (⟨(-1), (-1), t163⟩ : S96) [.int .i64 (-1), .int .i64 (-1), .bool t163] (fun k_ => k_ ≠ gb164) (fun _ => False) rfl (by (go_simp; done)) ?aP (fun _ hk => hk.elim) ?aF ?aO ?aB ?aS ?aL ?_; (case aP => exact k96_mkM _ _ _ (⟨(-1), (-1), t163⟩ : S96)); (case aB => exact (by repeat with_reducible first | exact HB.out | apply bA_ | apply bN_ | apply bD_ | refine bS_ ?_ (Aside0.out ‹_›))); (case aF => exact (fun k_ hk => Kd.freshB (g := gb164) (o := .cells #[.int .i64 (-1), .int .i64 (-1), .bool t163] 96 (0, 0)) (by refine bP_ (cs := #[.int .i64 (-1), .int .i64 (-1), .bool false]) ?_ 2 _ rfl; refine bP_ (cs := #[.int .i64 (-1), .int .i64 0, .bool false]) ?_ 1 _ rfl; refine bP_ (cs := #[.int .i64 0, .int .i64 0, .bool false]) ?_ 0 _ rfl; exact BK164.out) k_ hk)); (case aO => exact (by exact kM_ (kF_ (p := ⟨gb164, 2, none⟩) (kF_ (p := ⟨gb164, 1, none⟩) (kF_ (p := ⟨gb164, 0, none⟩) (kM_ HO_162000.out (fun k_ hk => (⟨hk, hk.2⟩ : _ ∧ k_ ≠ gb164))) (fun _ hk => hk.2) (.int .i64 (-1))) (fun _ hk => hk.2) (.int .i64 (-1))) (fun _ hk => hk.2) (.bool t163)) (fun _ hk => hk.1.2))); (case aS => exact (bZ_ (by repeat with_reducible first | exact HB.out | apply bA_ | apply bN_ | apply bD_ | refine bS_ ?_ (Aside0.out ‹_›)))); (case aL => have := LMc42.out; omega); intro v170 w50 ho hb hg hat; rw [← Ny169.out] at ho; have n0_ := aM_ (Kd.R_over' (by exact (kM_ (kG_ (kG_ (kG_ (kT_ HO_3.out BK164.out (by decide))))) (fun _ h_ => h_.1))) (Kd.R_typed (by exact (kM_ (kF_ (p := ⟨gb164, 2, none⟩) (kF_ (p := ⟨gb164, 1, none⟩) (kF_ (p := ⟨gb164, 0, none⟩) (kM_ HO_162000.out (fun k_ hk => (⟨hk, hk.2⟩ : _ ∧ k_ ≠ gb164))) (fun _ hk => hk.2) (.int .i64 (-1))) (fun _ hk => hk.2) (.int .i64 (-1))) (fun _ hk => hk.2) (.bool t163)) (fun _ h_ => h_.1)))) (by decide) hg); have n1_ := aM_ (blk_grown (g := gb149) (o := .cells #[.slice none 0 0] 28 (0, 0)) (by exact br_ NB149_164.out (br_ NB149_164.out (br_ NB149_164.out (BK149.out)))) hg (k6_ HO_162000.out BK149.out (by decide))); have n2_ := aM_ (blk_grown (g := gb161) (o := .cells #[u162000] 28 (0, 0)) (by exact br_ NB161_164.out (br_ NB161_164.out (br_ NB161_164.out (BK161.out)))) hg (k6_ HO_162000.out BK161.out (by decide))); have n3_ := aM_ (blk_grown (g := gb164) (o := .cells #[.int .i64 (-1), .int .i64 (-1), .bool t163] 96 (0, 0)) (by refine bP_ (cs := #[.int .i64 (-1), .int .i64 (-1), .bool false]) ?_ 2 _ rfl; refine bP_ (cs := #[.int .i64 (-1), .int .i64 0, .bool false]) ?_ 1 _ rfl; refine bP_ (cs := #[.int .i64 0, .int .i64 0, .bool false]) ?_ 0 _ rfl; exact BK164.out) hg (Kd.R_away HO_162000.out (fun _ hk => hk.2))); have n4_ := aM_ (hb); have n5_ := aM_ (ho); clear HO_3; clear BK149; clear BK161; clear BK164; clear HB; clear HO_162000; have HO_3 := n0_; have BK149 := n1_; have BK161 := n2_; have BK164 := n3_; have HB := n4_; have HO171 := n5_; clear n0_ n1_ n2_ n3_ n4_ n5_; clear ho hb hg hat; obtain ⟨Ao51, co51, eo51⟩ := kS_ HO171.out; subst eo51; have hcz52_0 := c0_ BK161; have hfz52_0 := bF_ BK161.out 0))
    go_roundg k2
    case measure => have := HK1.out; have := HK2.out; omega
    case rel => exact ⟨(wrap64 (x7_2 + 1)), (y169), (.slice Ao51 y169.length co51), (by rfl), H', ⟨by have := HK1.out; have := HK2.out; omega⟩, ⟨by exact kM_ (kG_ (kT_ HO_3.out BK161.out (by decide))) (fun _ hk => trivial)⟩, ⟨by exact kM_ (kG_ (kT_ HO171.out BK161.out (by decide))) (fun _ hk => trivial)⟩, ⟨by exact br_ NB149_161.out (BK149.out)⟩, ⟨by refine bP_ (cs := #[u162000]) ?_ 0 _ rfl; exact BK161.out⟩, ⟨by repeat with_reducible first | exact HB.out | apply bA_ | apply bN_ | apply bD_ | refine bS_ ?_ (Aside0.out ‹_›)⟩⟩
   rw [if_pos c23] at H
   have c23b0 := dT_ c23
   clear c23
   obtain ⟨ji24, hji24⟩ : ∃ j_ : Int, (wrap64 (((rdOf eB_ x3_1 x7_2).size : Int) - 1)) = j_ := ⟨_, rfl⟩
   replace H : (if 0 ≤ (ji24) then (if (ji24) < ((rdOf eB_ x3_1 x7_2).size : Int) then (if (ji24) ≤ ((rdOf eB_ x3_1 x7_2).size : Int) then ((spec_l2Place.f k2 x3_1 ((rdOf eB_ x3_1 x7_2).extract 0 ((ji24) : Int).toNat)).bind fun t165 => (if x162000_2.length < 5864062014805 then (spec_l2Of.l2 k2 l0 x3_1 (wrap64 (x7_2 + 1)) (x162000_2 ++ [(⟨((bt (rdOf eB_ x3_1 x7_2) (ji24)) - 97) % 256, t165, t163⟩ : S96)])) else (none))) else (none)) else (none)) else (none)) = some r := by first | (rw [hji24] at H; exact H) | (simp only [hji24] at H ⊢; exact H)
   (try rw [hji24] at A22)
   have hji24w : (IntKind.i64.wrap (((rdOf eB_ x3_1 x7_2).size : Int) - 1)) = ji24 := (i6_ _).trans hji24
   by_cases c25 : 0 ≤ (ji24)
   rotate_left
   ·
    rw [if_neg c25] at H
    exact absurd H (by simp)
   rw [if_pos c25] at H
   have c25b0 := dT_ c25
   clear c25
   by_cases c26 : (ji24) < ((rdOf eB_ x3_1 x7_2).size : Int)
   rotate_left
   ·
    rw [if_neg c26] at H
    exact absurd H (by simp)
   rw [if_pos c26] at H
   have c26b0 := dT_ c26
   clear c26
   have c28b0 := eq_true (oD_ ‹_› : 0 ≤ (ji24))
   by_cases c29 : (ji24) ≤ ((rdOf eB_ x3_1 x7_2).size : Int)
   rotate_left
   ·
    rw [if_neg c29] at H
    exact absurd H (by simp)
   rw [if_pos c29] at H
   have c29b0 := eq_true c29
   have c29b1 := dT_ c29
   clear c29
   replace H := oB_.mp H
   obtain ⟨t165, A300, H⟩ := H
   try dsimp only at H
   have A30 := aM_ A300
   clear A300
   by_cases c31 : x162000_2.length < 5864062014805
   rotate_left
   ·
    rw [if_neg c31] at H
    exact absurd H (by simp)
   rw [if_pos c31] at H
   have LMc31 := aM_ c31
   clear c31
   obtain ⟨y166, hy166⟩ : ∃ y_ : List (S96), y_ = (x162000_2 ++ [(⟨((bt (rdOf eB_ x3_1 x7_2) (ji24)) - 97) % 256, t165, t163⟩ : S96)]) := ⟨_, rfl⟩
   replace H : (spec_l2Of.l2 k2 l0 x3_1 (wrap64 (x7_2 + 1)) y166) = some r := by (try rw [hy166]); first | with_reducible exact H | with_reducible exact oS_ H | exact H
   have Ny166 := aM_ hy166
   clear hy166
   have H' := aM_ H
   clear H
   obtain ⟨Ao32, co32, eo32⟩ := kS_ HO_3.out
   subst eo32
   have p162 : 0 ≤ (x7_2 : Int) := oD_ ‹_›
   have q162 : x7_2 < (x3_1.length : Int) := oD_ ‹_›
   obtain ⟨ad162, e162, hx162_0⟩ := Kd.at_string (kR_ HO_3.out).2.2 x7_2 p162 q162
   cases e162
   replace p162 := eq_true p162
   replace q162 := eq_true q162
   go_wp2_with (first | (refine gs_ 48 Tryz.func79 #[.slice A0 l0.length c0, .string (rdOf eB_ x3_1 x7_2)] ?_; (with_reducible refine (spec_l2Has.calls k2 _ _ l0 (rdOf eB_ x3_1 x7_2) t163 _ ?side1 HC0.out A22.out).mono ?_); (case side1 => repeat (first | exact (k4_ HR0.out HB.out) | with_reducible first | apply cA_ | apply cN_ | apply cD_)); rintro e w' ⟨rfl, ⟨nd, rfl⟩⟩; refine ⟨_, rfl, ?_⟩; (try (rw [drewN_self wr]; generalize hq_ : World.drewN wr _ = wr; have n0_ : Aside0 (Kd.R k96 96 wr w.heap.size (fun _ => True) u162000 x162000_2) := ⟨by rw [← hq_]; exact (by (with_reducible repeat (first | apply k1_ | apply k2_ | apply k3_)); exact HO_162000.out)⟩; have n1_ : Aside0 (Kd.R Kd.string 9 wr w.heap.size (fun _ => True) (.slice (some ad162) x3_1.length co32) x3_1) := ⟨by rw [← hq_]; exact (by (with_reducible repeat (first | apply k1_ | apply k2_ | apply k3_)); exact HO_3.out)⟩; have n2_ : Aside0 (wr.heap[gb149]? = some (.cells #[.slice none 0 0] 28 (0, 0))) := ⟨by rw [← hq_]; exact (by (with_reducible repeat (first | refine b2_ ?_ _ | refine b1_ ?_ | refine b3_ ?_ _)); exact BK149.out)⟩; have n3_ : Aside0 (wr.heap[gb161]? = some (.cells #[u162000] 28 (0, 0))) := ⟨by rw [← hq_]; exact (by (with_reducible repeat (first | refine b2_ ?_ _ | refine b1_ ?_ | refine b3_ ?_ _)); exact BK161.out)⟩; have n4_ : Aside0 (Below w.heap.size w wr) := ⟨by rw [← hq_]; exact (by repeat with_reducible first | exact HB.out | apply bA_ | apply bN_ | apply bD_ | refine bS_ ?_ (Aside0.out ‹_›))⟩; clear HO_162000 HO_3 BK149 BK161 HB hq_; have HO_162000 := n0_; have HO_3 := n1_; have BK149 := n2_; have BK161 := n3_; have HB := n4_; clear n0_ n1_ n2_ n3_ n4_))) | (refine bx_ 9 #[.int .i64 0, .int .i64 0, .bool false] 96 ?_; intro gb164 hg w33 hbox hb; replace HO_3 := k9_ HO_3 hb; replace HO_162000 := aM_ (kB_ (Kd.R_elderB HO_162000.out gb164 (Nat.le_of_eq hg.symm)) hb); have BK164 := aM_ (hbox); have GW164 := gw_ hg HB; replace HB := b4_ HB hb; have NB149_164 := nb_ hg BK149; have NB164_149 := ns_ NB149_164; replace BK149 := b5_ BK149 hb; have NB161_164 := nb_ hg BK161; have NB164_161 := ns_ NB161_164; replace BK161 := b5_ BK161 hb; clear hb hbox hg; have hnb34 := NB164_149.out; have hnc34 := NB149_164.out; have hnb35 := NB164_161.out; have hnc35 := NB161_164.out; have hcz36_0 := c0_ BK164; have hcz36_1 := c1_ BK164; have hcz36_2 := c2_ BK164; have hfz36_0 := bF_ BK164.out 0; have hfz36_1 := bF_ BK164.out 1; have hfz36_2 := bF_ BK164.out 2; have p27 : 0 ≤ ((ji24) : Int) := oD_ ‹_›; have q27 : (ji24) < ((rdOf eB_ x3_1 x7_2).size : Int) := oD_ ‹_›; have hx27 := bt_at (rdOf eB_ x3_1 x7_2) (ji24); replace p27 := eq_true p27; replace q27 := eq_true q27) | (refine gs_ 66 Tryz.func65 #[.slice (some ad162) x3_1.length co32, .string ((rdOf eB_ x3_1 x7_2).extract 0 ((ji24) : Int).toNat)] ?_; (with_reducible refine (spec_l2Place.calls k2 _ _ x3_1 ((rdOf eB_ x3_1 x7_2).extract 0 ((ji24) : Int).toNat) t165 _ ?side1 ?side2 A30.out).mono ?_); (case side1 => refine (kR_ (e := 9) (base := w.heap.size) (ok := fun k_ => True) (n := x3_1.length) (c := co32) ?_).2.2; exact (by exact (kM_ (kG_ (kG_ (kG_ (kG_ (kT_ HO_3.out BK164.out (by decide)))))) (fun _ h_ => h_.1)))); (case side2 => exact (kR_ HO_3.out).2.1); rintro e w' ⟨rfl, ⟨nd, rfl⟩⟩; refine ⟨_, rfl, ?_⟩; have m0_ : Aside0 (Kd.R Kd.string 9 (((((w33.setCell ⟨gb164, 0, none⟩ (.int .i64 (-1))).setCell ⟨gb164, 1, none⟩ (.int .i64 (-1))).setCell ⟨gb164, 2, none⟩ (.bool t163)).setCell ⟨gb164, 0, none⟩ (.int .i64 (((bt (rdOf eB_ x3_1 x7_2) (ji24)) - 97) % 256))).drewN nd) w.heap.size (fun _ => True) (.slice (some ad162) x3_1.length co32) x3_1) := ⟨by (with_reducible repeat (first | apply k1_ | apply k2_ | apply k3_)); exact kM_ (kG_ (kG_ (kG_ (kG_ (kT_ HO_3.out BK164.out (by decide)))))) (fun _ _ => trivial)⟩; have m1_ : Aside0 (Kd.R k96 96 (((((w33.setCell ⟨gb164, 0, none⟩ (.int .i64 (-1))).setCell ⟨gb164, 1, none⟩ (.int .i64 (-1))).setCell ⟨gb164, 2, none⟩ (.bool t163)).setCell ⟨gb164, 0, none⟩ (.int .i64 (((bt (rdOf eB_ x3_1 x7_2) (ji24)) - 97) % 256))).drewN nd) w.heap.size (fun k_ => True ∧ k_ ≠ gb164) u162000 x162000_2) := ⟨by (with_reducible repeat (first | apply k1_ | apply k2_ | apply k3_)); exact kM_ (kF_ (p := ⟨gb164, 0, none⟩) (kF_ (p := ⟨gb164, 2, none⟩) (kF_ (p := ⟨gb164, 1, none⟩) (kF_ (p := ⟨gb164, 0, none⟩) (kM_ HO_162000.out (fun k_ hk => (⟨hk, hk.2⟩ : _ ∧ k_ ≠ gb164))) (fun _ hk => hk.2) (.int .i64 (-1))) (fun _ hk => hk.2) (.int .i64 (-1))) (fun _ hk => hk.2) (.bool t163)) (fun _ hk => hk.2) (.int .i64 (((bt (rdOf eB_ x3_1 x7_2) (ji24)) - 97) % 256))) (fun _ hk => ⟨trivial, hk.2⟩)⟩; have m2_ : Aside0 ((((((w33.setCell ⟨gb164, 0, none⟩ (.int .i64 (-1))).setCell ⟨gb164, 1, none⟩ (.int .i64 (-1))).setCell ⟨gb164, 2, none⟩ (.bool t163)).setCell ⟨gb164, 0, none⟩ (.int .i64 (((bt (rdOf eB_ x3_1 x7_2) (ji24)) - 97) % 256))).drewN nd).heap[gb149]? = some (.cells #[.slice none 0 0] 28 (0, 0))) := ⟨by (with_reducible repeat (first | refine b2_ ?_ _ | refine b1_ ?_ | refine b3_ ?_ _)); exact br_ NB149_164.out (br_ NB149_164.out (br_ NB149_164.out (br_ NB149_164.out (BK149.out))))⟩; have m3_ : Aside0 ((((((w33.setCell ⟨gb164, 0, none⟩ (.int .i64 (-1))).setCell ⟨gb164, 1, none⟩ (.int .i64 (-1))).setCell ⟨gb164, 2, none⟩ (.bool t163)).setCell ⟨gb164, 0, none⟩ (.int .i64 (((bt (rdOf eB_ x3_1 x7_2) (ji24)) - 97) % 256))).drewN nd).heap[gb161]? = some (.cells #[u162000] 28 (0, 0))) := ⟨by (with_reducible repeat (first | refine b2_ ?_ _ | refine b1_ ?_ | refine b3_ ?_ _)); exact br_ NB161_164.out (br_ NB161_164.out (br_ NB161_164.out (br_ NB161_164.out (BK161.out))))⟩; have m4_ : Aside0 ((((((w33.setCell ⟨gb164, 0, none⟩ (.int .i64 (-1))).setCell ⟨gb164, 1, none⟩ (.int .i64 (-1))).setCell ⟨gb164, 2, none⟩ (.bool t163)).setCell ⟨gb164, 0, none⟩ (.int .i64 (((bt (rdOf eB_ x3_1 x7_2) (ji24)) - 97) % 256))).drewN nd).heap[gb164]? = some (.cells #[.int .i64 (((bt (rdOf eB_ x3_1 x7_2) (ji24)) - 97) % 256), .int .i64 (-1), .bool t163] 96 (0, 0))) := ⟨by (with_reducible repeat (first | refine b2_ ?_ _ | refine b1_ ?_ | refine b3_ ?_ _)); refine bP_ (cs := #[.int .i64 (-1), .int .i64 (-1), .bool t163]) ?_ 0 _ rfl; refine bP_ (cs := #[.int .i64 (-1), .int .i64 (-1), .bool false]) ?_ 2 _ rfl; refine bP_ (cs := #[.int .i64 (-1), .int .i64 0, .bool false]) ?_ 1 _ rfl; refine bP_ (cs := #[.int .i64 0, .int .i64 0, .bool false]) ?_ 0 _ rfl; exact BK164.out⟩; have m5_ : Aside0 (Below w.heap.size w (((((w33.setCell ⟨gb164, 0, none⟩ (.int .i64 (-1))).setCell ⟨gb164, 1, none⟩ (.int .i64 (-1))).setCell ⟨gb164, 2, none⟩ (.bool t163)).setCell ⟨gb164, 0, none⟩ (.int .i64 (((bt (rdOf eB_ x3_1 x7_2) (ji24)) - 97) % 256))).drewN nd)) := ⟨by repeat with_reducible first | exact HB.out | apply bA_ | apply bN_ | apply bD_ | refine bS_ ?_ (Aside0.out ‹_›)⟩; clear HO_3 HO_162000 BK149 BK161 BK164 HB; generalize (((((w33.setCell ⟨gb164, 0, none⟩ (.int .i64 (-1))).setCell ⟨gb164, 1, none⟩ (.int .i64 (-1))).setCell ⟨gb164, 2, none⟩ (.bool t163)).setCell ⟨gb164, 0, none⟩ (.int .i64 (((bt (rdOf eB_ x3_1 x7_2) (ji24)) - 97) % 256))).drewN nd) = w339 at m0_ m1_ m2_ m3_ m4_ m5_ ⊢; have HO_3 := m0_; have HO_162000 := m1_; have BK149 := m2_; have BK161 := m3_; have BK164 := m4_; have HB := m5_; clear m0_ m1_ m2_ m3_ m4_ m5_; have hczz_0 := c0_ BK164; have hfzz_0 := bF_ BK164.out 0; have hczz_1 := c1_ BK164; have hfzz_1 := bF_ BK164.out 1; have hczz_2 := c2_ BK164; have hfzz_2 := bF_ BK164.out 2; have hnb37 := NB161_149.out; have hnc37 := NB149_161.out; have hcz38_0 := c0_ BK161; have hfz38_0 := bF_ BK161.out 0) | ((with_reducible refine gate_builtin (b := .append) (xs := #[.tmp 69, .tmp 71]) rfl ?_); at_builtin; refine Kd.R_append k96 (w0 := w) w.heap.size rfl (.tmp 69) (.tmp 71) 26 96 (.agg #[(.int .i64 0), (.int .i64 0), (.bool false)]) 24 rfl Tryz.underlying26 info96 rfl (by decide) (by omega) u162000 x162000_2 (⟨((bt (rdOf eB_ x3_1 x7_2) (ji24)) - 97) % 256, t165, t163⟩ : S96) [.int .i64 (((bt (rdOf eB_ x3_1 x7_2) (ji24)) - 97) % 256), .int .i64 t165, .bool t163] (fun k_ => k_ ≠ gb164) (fun _ => False) rfl (by (go_simp; done)) ?aP (fun _ hk => hk.elim) ?aF ?aO ?aB ?aS ?aL ?_; (case aP => exact k96_mkM _ _ _ (⟨((bt (rdOf eB_ x3_1 x7_2) (ji24)) - 97) % 256, t165, t163⟩ : S96)); (case aB => exact (by repeat with_reducible first | exact HB.out | apply bA_ | apply bN_ | apply bD_ | refine bS_ ?_ (Aside0.out ‹_›))); (case aF => exact (fun k_ hk => Kd.freshB (g := gb164) (o := .cells #[.int .i64 (((bt (rdOf eB_ x3_1 x7_2) (ji24)) - 97) % 256), .int .i64 t165, .bool t163] 96 (0, 0)) (by refine bP_ (cs := #[.int .i64 (((bt (rdOf eB_ x3_1 x7_2) (ji24)) - 97) % 256), .int .i64 (-1), .bool t163]) ?_ 1 _ rfl; exact BK164.out) k_ hk)); (case aO => exact (by exact kM_ (kF_ (p := ⟨gb164, 1, none⟩) (kM_ HO_162000.out (fun k_ hk => (⟨hk, hk.2⟩ : _ ∧ k_ ≠ gb164))) (fun _ hk => hk.2) (.int .i64 t165)) (fun _ hk => hk.1.2))); (case aS => exact (bZ_ (by repeat with_reducible first | exact HB.out | apply bA_ | apply bN_ | apply bD_ | refine bS_ ?_ (Aside0.out ‹_›)))); (case aL => have := LMc31.out; omega); intro v167 w39 ho hb hg hat; rw [← Ny166.out] at ho; have n0_ := aM_ (Kd.R_over' (by exact (kM_ (kG_ (kT_ HO_3.out BK164.out (by decide))) (fun _ h_ => h_.1))) (Kd.R_typed (by exact (kM_ (kF_ (p := ⟨gb164, 1, none⟩) (kM_ HO_162000.out (fun k_ hk => (⟨hk, hk.2⟩ : _ ∧ k_ ≠ gb164))) (fun _ hk => hk.2) (.int .i64 t165)) (fun _ h_ => h_.1)))) (by decide) hg); have n1_ := aM_ (blk_grown (g := gb149) (o := .cells #[.slice none 0 0] 28 (0, 0)) (by exact br_ NB149_164.out (BK149.out)) hg (k6_ HO_162000.out BK149.out (by decide))); have n2_ := aM_ (blk_grown (g := gb161) (o := .cells #[u162000] 28 (0, 0)) (by exact br_ NB161_164.out (BK161.out)) hg (k6_ HO_162000.out BK161.out (by decide))); have n3_ := aM_ (blk_grown (g := gb164) (o := .cells #[.int .i64 (((bt (rdOf eB_ x3_1 x7_2) (ji24)) - 97) % 256), .int .i64 t165, .bool t163] 96 (0, 0)) (by refine bP_ (cs := #[.int .i64 (((bt (rdOf eB_ x3_1 x7_2) (ji24)) - 97) % 256), .int .i64 (-1), .bool t163]) ?_ 1 _ rfl; exact BK164.out) hg (Kd.R_away HO_162000.out (fun _ hk => hk.2))); have n4_ := aM_ (hb); have n5_ := aM_ (ho); clear HO_3; clear BK149; clear BK161; clear BK164; clear HB; clear HO_162000; have HO_3 := n0_; have BK149 := n1_; have BK161 := n2_; have BK164 := n3_; have HB := n4_; have HO168 := n5_; clear n0_ n1_ n2_ n3_ n4_ n5_; clear ho hb hg hat; obtain ⟨Ao40, co40, eo40⟩ := kS_ HO168.out; subst eo40; have hcz41_0 := c0_ BK161; have hfz41_0 := bF_ BK161.out 0))
   go_roundg k2
   case measure => have := HK1.out; have := HK2.out; omega
   case rel => exact ⟨(wrap64 (x7_2 + 1)), (y166), (.slice Ao40 y166.length co40), (by rfl), H', ⟨by have := HK1.out; have := HK2.out; omega⟩, ⟨by exact kM_ (kG_ (kT_ HO_3.out BK161.out (by decide))) (fun _ hk => trivial)⟩, ⟨by exact kM_ (kG_ (kT_ HO168.out BK161.out (by decide))) (fun _ hk => trivial)⟩, ⟨by exact br_ NB149_161.out (BK149.out)⟩, ⟨by refine bP_ (cs := #[u162000]) ?_ 0 _ rfl; exact BK161.out⟩, ⟨by repeat with_reducible first | exact HB.out | apply bA_ | apply bN_ | apply bD_ | refine bS_ ?_ (Aside0.out ‹_›)⟩⟩
def spec_l2Set.l0 : Nat → List ByteArray → List ByteArray → Int → Option (List ByteArray × Bool)
 | 0, _, _, _ => none
 | k + 1, x0, x4, x5 => if x5 < (x0.length : Int) then (if 0 ≤ x5 then ((spec_l2Word.f k (rdOf eB_ x0 x5)).bind fun t198 => (if t198 = true then ((spec_l2Put.f x4 (rdOf eB_ x0 x5)).bind fun t200 => (spec_l2Set.l0 k x0 t200 (wrap64 (x5 + 1)))) else (some ((([] : List ByteArray)), false)))) else (none)) else (some (x4, decide ((x4.length : Int) ≤ 40)))
def spec_l2Set.f (k : Nat) (l0 : List ByteArray) : Option (List ByteArray × Bool) := spec_l2Set.l0 k l0 (([] : List ByteArray)) 0
theorem spec_l2Set.mono_l : ∀ k, (∀ y0 y1 y2, LeO (spec_l2Set.l0 k y0 y1 y2) (spec_l2Set.l0 (k + 1) y0 y1 y2))
 | 0 => fun _ _ _ r h => by simp [spec_l2Set.l0] at h
 | k + 1 => by
  have ih0 := spec_l2Set.mono_l k
  intro y0 y1 y2
  unfold spec_l2Set.l0
  repeat' with_reducible first | exact ih0 _ _ _ | exact spec_l2Word.mono _ _ | exact l3_ _ | exact l0_ _ | refine l2_ ?_ ?_ | refine l1_ ?_ (fun _ => ?_)
theorem spec_l2Set.mono : ∀ a0 k, LeO (spec_l2Set.f k a0) (spec_l2Set.f (k + 1) a0) := by
 intro a0 k
 have ih0 := spec_l2Set.mono_l k
 unfold spec_l2Set.f
 repeat' with_reducible first | exact ih0 _ _ _ | exact spec_l2Word.mono _ _ | exact l3_ _ | exact l0_ _ | refine l2_ ?_ ?_ | refine l1_ ?_ (fun _ => ?_)
theorem spec_l2Set.calls (k : Nat) (A0 : Option Addr) (c0 : Nat) (l0 : List ByteArray) (r1 : List ByteArray) (r2 : Bool) (w : World) (hr0 : Kd.C Kd.string w A0 l0.length l0) (hc0 : l0.length ≤ c0) (h : spec_l2Set.f k l0 = some (r1, r2)) :
  Calls Tryz.prog 75 #[.slice A0 l0.length c0] w fun e w' => ∃ v0_ : Value, e = .returned (.tuple #[v0_, .bool r2]) ∧ Kd.R Kd.string 9 w' w.heap.size (fun _ => True) v0_ r1 ∧ Below w.heap.size w w' := by
 have HR0 := aM_ hr0
 have HC0 := aM_ hc0
 clear hr0 hc0
 have HB := aM_ (Below.refl w.heap.size w)
 have H : (spec_l2Set.l0 k l0 (([] : List ByteArray)) 0) = some (r1, r2) := h
 clear h
 obtain ⟨y194, hy194⟩ : ∃ y_ : List ByteArray, y_ = (([] : List ByteArray)) := ⟨_, rfl⟩
 replace H : (spec_l2Set.l0 k l0 y194 0) = some (r1, r2) := by (try rw [hy194]); first | with_reducible exact H | with_reducible exact oS_ H | exact H
 have Ny194 := aM_ hy194
 clear hy194
 have H' := aM_ H
 clear H
 go_enter Tryz.func75, Tryz.ntmps75
 go_wp2_with (first | ((with_reducible refine gD_ (N := 6) rfl ?_); refine Kd.R_lit Kd.string _ 9 ?hg (N := 6) ?hd (xs := ([] : List ByteArray)) (inner := []) (ok := fun _ => True) (okp := fun _ => True) ?hr ?hp (fun _ hk => hk) trivial (Below.refl _ _) (Nat.le_refl _) (by simp) ?_; (case hd => rfl); (case hg => rfl); (case hr => (go_simp; done)); (case hp => exact (Reps.none _ _)); intro v195 w2 ho3 hb hg_ hnew_; clear hg_ hnew_; (rw [← Ny194.out] at ho3); have HO196 := aM_ (k5_ ho3 (bZ_ HB.out)); replace HB := b4_ HB hb; clear hb ho3))
 go_loopg [4, 5] k (fun kq v4 v5 w' => ∃ (x4_1 : List ByteArray) (x5_1 : Int), v5 = .int .i64 x5_1 ∧ Aside0 (spec_l2Set.l0 kq l0 x4_1 x5_1 = some (r1, r2)) ∧ Aside0 (kq ≤ k) ∧ Aside0 (Kd.R Kd.string 9 w' w.heap.size (fun _ => True) v4 x4_1) ∧ Aside0 (Below w.heap.size w w'))
 case atStart => exact ⟨(y194), (0), (by rfl), H', ⟨Nat.le_refl _⟩, ⟨HO196.out⟩, ⟨HB.out⟩⟩
 clear H'
 try clear p2
 obtain ⟨x4_1, x5_1, rfl, HA, HK1, HO_4, HB⟩ := hrel
 cases gk with
 | zero => exact absurd HA.out (by simp [spec_l2Set.l0])
 | succ k1 =>
  have H := HA.out
  clear HA
  simp only [spec_l2Set.l0] at H
  by_cases c4 : x5_1 < (l0.length : Int)
  rotate_left
  ·
   rw [if_neg c4] at H
   have c4b0 := dF_ c4
   clear c4
   simp only [Option.some.injEq, Prod.mk.injEq] at H
   obtain ⟨rfl, rfl⟩ := H
   obtain ⟨Ao13, co13, eo13⟩ := kS_ HO_4.out
   subst eo13
   go_wp2
   go_ret2
   exact ⟨_, by rfl, by exact HO_4.out, by exact HB.out⟩
  rw [if_pos c4] at H
  have c4b0 := dT_ c4
  clear c4
  by_cases c5 : 0 ≤ x5_1
  rotate_left
  ·
   rw [if_neg c5] at H
   exact absurd H (by simp)
  rw [if_pos c5] at H
  have c5b0 := dT_ c5
  clear c5
  replace H := oB_.mp H
  obtain ⟨t198, A60, H⟩ := H
  try dsimp only at H
  have A6 := aM_ A60
  clear A60
  by_cases c7 : t198 = true
  ·
   subst c7
   rw [if_pos rfl] at H
   replace H := oB_.mp H
   obtain ⟨t200, A80, H⟩ := H
   try dsimp only at H
   have A8 := aM_ A80
   clear A80
   have H' := aM_ H
   clear H
   have p197 : 0 ≤ (x5_1 : Int) := oD_ ‹_›
   have q197 : x5_1 < (l0.length : Int) := oD_ ‹_›
   obtain ⟨ad197, e197, hx197_0⟩ := Kd.at_string HR0.out x5_1 p197 q197
   cases e197
   replace hx197_0 := cb_ HB hx197_0
   replace p197 := eq_true p197
   replace q197 := eq_true q197
   go_wp2_with (first | (refine gs_ 17 Tryz.func58 #[.string (rdOf eB_ l0 x5_1)] ?_; (with_reducible refine (spec_l2Word.calls k1 (rdOf eB_ l0 x5_1) true _ A6.out).mono ?_); rintro e w' ⟨rfl, ⟨nd, rfl⟩⟩; refine ⟨_, rfl, ?_⟩; have p199 : 0 ≤ (x5_1 : Int) := oD_ ‹_›; have q199 : x5_1 < (l0.length : Int) := oD_ ‹_›; obtain ⟨ad199, e199, hx199_0⟩ := Kd.at_string HR0.out x5_1 p199 q199; obtain rfl : ad197 = ad199 := (by injection e199); replace hx199_0 := cb_ HB hx199_0; replace p199 := eq_true p199; replace q199 := eq_true q199; obtain ⟨Ao9, co9, eo9⟩ := kS_ HO_4.out; subst eo9) | (refine gs_ 25 Tryz.func78 #[.slice Ao9 x4_1.length co9, .string (rdOf eB_ l0 x5_1)] ?_; (with_reducible refine (spec_l2Put.calls (fun k_ => some k_ = (.slice Ao9 x4_1.length co9 : Value).ownBlock) (.slice Ao9 x4_1.length co9) x4_1 (rdOf eB_ l0 x5_1) t200 w _ ?side1 ?side2 A8.out).mono ?_); (case side1 => repeat with_reducible first | exact HB.out | apply bA_ | apply bN_ | apply bD_); (case side2 => exact Kd.R_tight rfl HO_4.out); rintro e w10 ⟨v201, rfl, ho0, hb, hkp⟩; refine ⟨_, rfl, ?_⟩; have n0_ := aM_ (kM_ (ok' := fun k_ => True) ho0 (fun k_ hk_ => trivial)); have n1_ := aM_ (hb); clear HB; clear HO_4; have HO202 := n0_; have HB := n1_; clear n0_ n1_; (try clear hb); (try clear hkp); (try clear ho0)))
   go_roundg k1
   case measure => have := HK1.out; omega
   case rel => exact ⟨(t200), (wrap64 (x5_1 + 1)), (by rfl), H', ⟨by have := HK1.out; omega⟩, ⟨HO202.out⟩, ⟨HB.out⟩⟩
  replace c7 := Bool.eq_false_iff.mpr c7
  subst c7
  replace H : (some ((([] : List ByteArray)), false)) = some (r1, r2) := by rw [if_neg (show ¬ (false = true) by decide)] at H; exact H
  obtain ⟨y203, hy203⟩ : ∃ y_ : List ByteArray, y_ = (([] : List ByteArray)) := ⟨_, rfl⟩
  replace H : (some (y203, false)) = some (r1, r2) := by (try rw [hy203]); first | with_reducible exact H | with_reducible exact oS_ H | exact H
  have Ny203 := aM_ hy203
  clear hy203
  simp only [Option.some.injEq, Prod.mk.injEq] at H
  obtain ⟨rfl, rfl⟩ := H
  have p197 : 0 ≤ (x5_1 : Int) := oD_ ‹_›
  have q197 : x5_1 < (l0.length : Int) := oD_ ‹_›
  obtain ⟨ad197, e197, hx197_0⟩ := Kd.at_string HR0.out x5_1 p197 q197
  cases e197
  replace hx197_0 := cb_ HB hx197_0
  replace p197 := eq_true p197
  replace q197 := eq_true q197
  go_wp2_with (first | (refine gs_ 17 Tryz.func58 #[.string (rdOf eB_ l0 x5_1)] ?_; (with_reducible refine (spec_l2Word.calls k1 (rdOf eB_ l0 x5_1) false _ A6.out).mono ?_); rintro e w' ⟨rfl, ⟨nd, rfl⟩⟩; refine ⟨_, rfl, ?_⟩) | ((with_reducible refine gD_ (N := 19) rfl ?_); refine Kd.R_lit Kd.string _ 9 ?hg (N := 19) ?hd (xs := ([] : List ByteArray)) (inner := []) (ok := fun _ => True) (okp := fun _ => True) ?hr ?hp (fun _ hk => hk) trivial (Below.refl _ _) (Nat.le_refl _) (by simp) ?_; (case hd => rfl); (case hg => rfl); (case hr => (go_simp; done)); (case hp => exact (Reps.none _ _)); intro v204 w11 ho12 hb hg_ hnew_; clear hg_ hnew_; (rw [← Ny203.out] at ho12); have HO205 := aM_ (k5_ (Kd.R_new' ho12 (Kd.R_lt (by (with_reducible repeat (first | apply k1_ | apply k2_ | apply k3_)); exact HO_4.out))) (bZ_ (by repeat with_reducible first | exact HB.out | apply bA_ | apply bN_ | apply bD_))); replace HO_4 := aM_ (Kd.R_elder' (by (with_reducible repeat (first | apply k1_ | apply k2_ | apply k3_)); exact HO_4.out) (Kd.R_base ho12) hb); replace HB := aM_ (bT_ (by repeat with_reducible first | exact HB.out | apply bA_ | apply bN_ | apply bD_) hb); clear hb ho12))
  go_ret2
  exact ⟨_, by rfl, by exact kM_ HO205.out (fun _ hk => trivial), by exact HB.out⟩
mutual
def spec_l7Valid.l0 : Nat → Int → List (S72) → Option (Bool)
 | 0, _, _ => none
 | k + 1, x3, x291000 => if x3 < (x291000.length : Int) then (spec_l7Valid.l1 k x3 0 x291000) else ((spec_l7Walk.f k x291000 0 (⟨#[]⟩ : ByteArray) 0).bind fun bt298 => ((spec_l2Set.f k bt298.1).bind fun bt302 => (if bt302.2 = true then ((spec_l2Of.f k bt302.1).bind fun t306 => ((spec_l7Machine.f k t306).bind fun t309 => ((spec_l7Same.f k t309 x291000).bind fun t312 => (some t312)))) else (some false))))
def spec_l7Valid.l1 : Nat → Int → Int → List (S72) → Option (Bool)
 | 0, _, _, _ => none
 | k + 1, x3, x4, x291000 => if 0 ≤ x3 then (if x3 < (x291000.length : Int) then (if x4 < (((rd_T72 x291000 x3).f1).length : Int) then (if 0 ≤ x4 then ((spec_l1In.f ((rd_T88 ((rd_T72 x291000 x3).f1) x4).f0) 0 25).bind fun t296 => (if t296 = true then ((spec_l1In.f ((rd_T88 ((rd_T72 x291000 x3).f1) x4).f1) 0 (wrap64 ((x291000.length : Int) - 1))).bind fun t297 => (if t297 = true then (spec_l7Valid.l1 k x3 (wrap64 (x4 + 1)) x291000) else (some false))) else (some false))) else (none)) else (spec_l7Valid.l0 k (wrap64 (x3 + 1)) x291000)) else (none)) else (none)
end
def spec_l7Valid.f (k : Nat) (l0_0 : List (S72)) : Option (Bool) := (spec_l1In.f (l0_0.length : Int) 1 481).bind fun t291 => (if t291 = true then (spec_l7Valid.l0 k 0 l0_0) else (some false))
theorem spec_l7Valid.mono_l : ∀ k, (∀ y0 y1, LeO (spec_l7Valid.l0 k y0 y1) (spec_l7Valid.l0 (k + 1) y0 y1)) ∧ (∀ y0 y1 y2, LeO (spec_l7Valid.l1 k y0 y1 y2) (spec_l7Valid.l1 (k + 1) y0 y1 y2))
 | 0 => ⟨fun _ _ r h => by simp [spec_l7Valid.l0] at h, fun _ _ _ r h => by simp [spec_l7Valid.l1] at h⟩
 | k + 1 => by
  obtain ⟨ih0, ih1⟩ := spec_l7Valid.mono_l k
  refine ⟨?_, ?_⟩
  ·
   intro y0 y1
   unfold spec_l7Valid.l0
   repeat' with_reducible first | exact ih0 _ _ | exact ih1 _ _ _ | exact spec_l2Of.mono _ _ | exact spec_l2Set.mono _ _ | exact spec_l7Machine.mono _ _ | exact spec_l7Same.mono _ _ _ | exact spec_l7Walk.mono _ _ _ _ _ | exact l3_ _ | exact l0_ _ | refine l2_ ?_ ?_ | refine l1_ ?_ (fun _ => ?_)
  intro y0 y1 y2
  unfold spec_l7Valid.l1
  repeat' with_reducible first | exact ih0 _ _ | exact ih1 _ _ _ | exact spec_l2Of.mono _ _ | exact spec_l2Set.mono _ _ | exact spec_l7Machine.mono _ _ | exact spec_l7Same.mono _ _ _ | exact spec_l7Walk.mono _ _ _ _ _ | exact l3_ _ | exact l0_ _ | refine l2_ ?_ ?_ | refine l1_ ?_ (fun _ => ?_)
theorem spec_l7Valid.mono : ∀ a0 k, LeO (spec_l7Valid.f k a0) (spec_l7Valid.f (k + 1) a0) := by
 intro a0 k
 obtain ⟨ih0, ih1⟩ := spec_l7Valid.mono_l k
 unfold spec_l7Valid.f
 repeat' with_reducible first | exact ih0 _ _ | exact ih1 _ _ _ | exact spec_l2Of.mono _ _ | exact spec_l2Set.mono _ _ | exact spec_l7Machine.mono _ _ | exact spec_l7Same.mono _ _ _ | exact spec_l7Walk.mono _ _ _ _ _ | exact l3_ _ | exact l0_ _ | refine l2_ ?_ ?_ | refine l1_ ?_ (fun _ => ?_)
def spec_l7Valid.T14 : Bool × List (List Nat × List Nat) := (true, [([], []), ([0], [0]), ([1], [1]), ([2, 1, 1], [1, 2]), ([3, 3, 1], [1, 3]), ([1], [1]), ([4, 5, 4, 1], [1, 4, 5]), ([1, 6], [1, 6]), ([7, 6, 0, 1, 2, 3, 4, 5, 6, 7], [7])])
def spec_l7Valid.B14 : List Nat := [0, 1, 3, 7, 15, 3, 63, 127, 255]
theorem spec_l7Valid.tab14 : rtab .any (opsOf Tryz.f47 14) = spec_l7Valid.T14 := by kernel_rfl
theorem spec_l7Valid.bits14 : waitsOk spec_l7Valid.T14.2 spec_l7Valid.B14 = true := by kernel_rfl
theorem spec_l7Valid.calls (k : Nat) (A0_0 : Option Addr) (c0_0 : Nat) (l0_0 : List (S72)) (r : Bool) (w : World) (hr0_0 : Kd.C k72 w A0_0 l0_0.length l0_0) (hc0_0 : l0_0.length ≤ c0_0) (h : spec_l7Valid.f k l0_0 = some r) :
  Calls Tryz.prog 47 #[.agg #[.slice A0_0 l0_0.length c0_0]] w fun e w' => e = .returned (.bool r) ∧ Below w.heap.size w w' := by
 have hu33 := Tryz.underlying33
 have hu88 := Tryz.underlying88
 have HR0_0 := aM_ hr0_0
 have HC0_0 := aM_ hc0_0
 clear hr0_0 hc0_0
 have HB := aM_ (Below.refl w.heap.size w)
 have H : ((spec_l1In.f (l0_0.length : Int) 1 481).bind fun t291 => (if t291 = true then (spec_l7Valid.l0 k 0 l0_0) else (some false))) = some r := h
 clear h
 replace H := oB_.mp H
 obtain ⟨t291, A20, H⟩ := H
 try dsimp only at H
 have A2 := aM_ A20
 clear A20
 by_cases c3 : t291 = true
 rotate_left
 ·
  replace c3 := Bool.eq_false_iff.mpr c3
  subst c3
  replace H : (some false) = some r := by rw [if_neg (show ¬ (false = true) by decide)] at H; exact H
  obtain rfl := Option.some.inj H
  go_enter Tryz.func47, Tryz.ntmps47
  go_wp2_with (first | ((with_reducible refine gD_ (N := 1) rfl ?_); (try (refine gate_guard (by rfl) ?_; dsimp only)); refine bE_ ?hg (N := 1) ?hd (cs := #[.slice A0_0 l0_0.length c0_0]) (t := 33) ?hr ?_; (case hd => rfl); (case hg => rfl); (case hr => (go_simp; done)); intro gb290 hg w53 hbox hb; have BK290 := aM_ (hbox); have GW290 := gw_ hg HB; replace HB := b4_ HB hb; clear hb hbox hg; have hcz54_0 := c0_ BK290; have hfz54_0 := bF_ BK290.out 0) | (refine gs_ 13 Tryz.func62 #[.int .i64 (l0_0.length : Int), .int .i64 1, .int .i64 481] ?_; (with_reducible refine (spec_l1In.calls (l0_0.length : Int) 1 481 false _ A2.out).mono ?_); rintro e w' ⟨rfl, ⟨nd, rfl⟩⟩; refine ⟨_, rfl, ?_⟩))
  go_ret
  exact ⟨by rfl, by repeat with_reducible first | exact HB.out | apply bA_ | apply bN_ | apply bD_ | refine bS_ ?_ GW290.out⟩
 subst c3
 rw [if_pos rfl] at H
 have H' := aM_ H
 clear H
 go_enter Tryz.func47, Tryz.ntmps47
 go_wp2_with (first | ((with_reducible refine gD_ (N := 1) rfl ?_); (try (refine gate_guard (by rfl) ?_; dsimp only)); refine bE_ ?hg (N := 1) ?hd (cs := #[.slice A0_0 l0_0.length c0_0]) (t := 33) ?hr ?_; (case hd => rfl); (case hg => rfl); (case hr => (go_simp; done)); intro gb290 hg w4 hbox hb; have BK290 := aM_ (hbox); have GW290 := gw_ hg HB; replace HB := b4_ HB hb; clear hb hbox hg; have hcz5_0 := c0_ BK290; have hfz5_0 := bF_ BK290.out 0) | (refine gs_ 13 Tryz.func62 #[.int .i64 (l0_0.length : Int), .int .i64 1, .int .i64 481] ?_; (with_reducible refine (spec_l1In.calls (l0_0.length : Int) 1 481 true _ A2.out).mono ?_); rintro e w' ⟨rfl, ⟨nd, rfl⟩⟩; refine ⟨_, rfl, ?_⟩))
 go_loopg [3] k (fun kq v3 w' => ∃ (x3_1 : Int), v3 = .int .i64 x3_1 ∧ Aside0 (spec_l7Valid.l0 kq x3_1 l0_0 = some r) ∧ Aside0 (kq ≤ k) ∧ Aside0 (w'.heap[gb290]? = some (.cells #[(.slice A0_0 l0_0.length c0_0)] 33 (0, 0))) ∧ Aside0 (Below w.heap.size w w'))
 case atStart => exact ⟨(0), (by rfl), H', ⟨Nat.le_refl _⟩, ⟨by (with_reducible repeat (first | refine b2_ ?_ _ | refine b1_ ?_ | refine b3_ ?_ _)); exact BK290.out⟩, ⟨by repeat with_reducible first | exact HB.out | apply bA_ | apply bN_ | apply bD_ | refine bS_ ?_ GW290.out⟩⟩
 clear H'
 try clear p2
 try clear hcz5_0
 try clear hfz5_0
 obtain ⟨x3_1, rfl, HA, HK1, BK290, HB⟩ := hrel
 cases gk with
 | zero => exact absurd HA.out (by simp [spec_l7Valid.l0])
 | succ k1 =>
  have H := HA.out
  clear HA
  simp only [spec_l7Valid.l0] at H
  by_cases c6 : x3_1 < (l0_0.length : Int)
  rotate_left
  ·
   rw [if_neg c6] at H
   have c6b0 := dF_ c6
   clear c6
   replace H := oB_.mp H
   obtain ⟨⟨t298, t301⟩, A310, H⟩ := H
   try dsimp only at H
   have A31 := aM_ A310
   clear A310
   replace H := oB_.mp H
   obtain ⟨⟨t302, t303⟩, A320, H⟩ := H
   try dsimp only at H
   have A32 := aM_ A320
   clear A320
   by_cases c33 : t303 = true
   rotate_left
   ·
    replace c33 := Bool.eq_false_iff.mpr c33
    subst c33
    replace H : (some false) = some r := by rw [if_neg (show ¬ (false = true) by decide)] at H; exact H
    obtain rfl := Option.some.inj H
    have hcz48_0 := c0_ BK290
    have hfz48_0 := bF_ BK290.out 0
    try go_wp2_with (first | (refine gs_ 58 Tryz.func69 #[.agg #[.slice A0_0 l0_0.length c0_0], .int .i64 0, .string (⟨#[]⟩ : ByteArray), .int .i64 0] ?_; (with_reducible refine (spec_l7Walk.calls k1 _ _ l0_0 0 (⟨#[]⟩ : ByteArray) 0 t298 t301 _ ?side1 HC0_0.out A31.out).mono ?_); (case side1 => repeat (first | exact (k4_ HR0_0.out HB.out) | with_reducible first | apply cA_ | apply cN_ | apply cD_)); rintro e w49 ⟨v299, rfl, ho0, hb⟩; refine ⟨_, rfl, ?_⟩; have HO300 := aM_ (k5_ ho0 (bZ_ HB.out)); replace BK290 := b5_ BK290 hb; replace HB := b4_ HB hb; (try clear hb); (try clear ho0); obtain ⟨Ao50, co50, eo50⟩ := kS_ HO300.out; subst eo50) | (refine gs_ 63 Tryz.func75 #[.slice Ao50 t298.length co50] ?_; (with_reducible refine (spec_l2Set.calls k1 _ _ t298 t302 false _ ?side1 ?side2 A32.out).mono ?_); (case side1 => repeat (first | exact (kR_ HO300.out).2.2 | with_reducible first | apply cA_ | apply cN_ | apply cD_)); (case side2 => exact (kR_ HO300.out).2.1); rintro e w51 ⟨v304, rfl, ho0, hb⟩; refine ⟨_, rfl, ?_⟩; have HO305 := aM_ (k5_ (Kd.R_new' ho0 (Kd.R_lt HO300.out)) (bZ_ HB.out)); replace HO300 := aM_ (Kd.R_elder' HO300.out (Kd.R_base ho0) hb); replace BK290 := b5_ BK290 hb; replace HB := b4_ HB hb; (try clear hb); (try clear ho0)))
    have n0_ := aM_ (k3_ HO300.out)
    have n1_ := aM_ (k3_ HO305.out)
    have n2_ := aM_ (b1_ BK290.out)
    have n3_ := aM_ (bD_ HB.out)
    clear HO300
    clear HO305
    clear BK290
    clear HB
    have HO300 := n0_
    have HO305 := n1_
    have BK290 := n2_
    have HB := n3_
    clear n0_ n1_ n2_ n3_
    refine start_ (n := 9) (S := fun w' => True) (ds := []) #[fy, fy, fy, fy, fy, fy, fy, fy, fy] (by kernel_rfl) rfl rfl trivial (fun hHeld => ?_); refine with_tabW spec_l7Valid.tab14 spec_l7Valid.bits14 (fun HT_ HW_ => ?_)
    generalize w51.drew = w52 at HO300 HO305 BK290 HB hHeld ⊢
    refine pu_ HT_ 0 66 #[ty, fy, fy, fy, fy, fy, fy, fy, fy] ?_
    refine pu_ HT_ 1 67 #[ty, ty, fy, fy, fy, fy, fy, fy, fy] ?_
    refine pure_ (i := 2) (N := some 68) (v := undef) (a' := ?_) #[ty, ty, ty, fy, fy, fy, fy, fy, fy] rfl rfl (aO_ HT_.out (by kernel_rfl)) (fun _ _ _ h => h) (Or.inr ⟨by rfl, rfl⟩) ?_ ?_
    rotate_left
    ·
     simp only [Act.put, sA_, sB_, sC_, i6_, i3_]
     rfl
    refine pure_ (i := 3) (N := some 69) (v := undef) (a' := ?_) #[ty, ty, ty, ty, fy, fy, fy, fy, fy] rfl rfl (aO_ HT_.out (by kernel_rfl)) (fun _ _ _ h => h) (Or.inr ⟨by rfl, rfl⟩) ?_ ?_
    rotate_left
    ·
     simp only [Act.put, sA_, sB_, sC_, i6_, i3_]
     rfl
    refine pure_ (i := 4) (N := some 70) (v := undef) (a' := ?_) #[ty, ty, ty, ty, ty, fy, fy, fy, fy] rfl rfl (aO_ HT_.out (by kernel_rfl)) (fun _ _ _ h => h) (Or.inr ⟨by rfl, rfl⟩) ?_ ?_
    rotate_left
    ·
     simp only [Act.put, sA_, sB_, sC_, i6_, i3_]
     rfl
    refine pure_ (i := 5) (N := some 71) (v := undef) (a' := ?_) #[ty, ty, ty, ty, ty, ty, fy, fy, fy] rfl rfl (aO_ HT_.out (by kernel_rfl)) (fun _ _ _ h => h) (Or.inr ⟨by rfl, rfl⟩) ?_ ?_
    rotate_left
    ·
     simp only [Act.put, sA_, sB_, sC_, i6_, i3_]
     rfl
    refine pure_ (i := 6) (N := some 72) (v := undef) (a' := ?_) #[ty, ty, ty, ty, ty, ty, ty, fy, fy] rfl rfl (aO_ HT_.out (by kernel_rfl)) (fun _ _ _ h => h) (Or.inr ⟨by rfl, rfl⟩) ?_ ?_
    rotate_left
    ·
     simp only [Act.put, sA_, sB_, sC_, i6_, i3_]
     rfl
    refine pu_ HT_ 7 73 #[ty, ty, ty, ty, ty, ty, ty, ty, fy] ?_
    refine pu_ HT_ 8 2 #[ty, ty, ty, ty, ty, ty, ty, ty, ty] ?_
    refine done_ (done_of HT_.out (by kernel_rfl)) ?_
    try go_wp2
    go_ret
    exact ⟨by rfl, by exact HB.out⟩
   subst c33
   rw [if_pos rfl] at H
   replace H := oB_.mp H
   obtain ⟨t306, A340, H⟩ := H
   try dsimp only at H
   have A34 := aM_ A340
   clear A340
   replace H := oB_.mp H
   obtain ⟨t309, A350, H⟩ := H
   try dsimp only at H
   have A35 := aM_ A350
   clear A350
   replace H := oB_.mp H
   obtain ⟨t312, A360, H⟩ := H
   try dsimp only at H
   have A36 := aM_ A360
   clear A360
   obtain rfl := Option.some.inj H
   have hcz37_0 := c0_ BK290
   have hfz37_0 := bF_ BK290.out 0
   try go_wp2_with (first | (refine gs_ 58 Tryz.func69 #[.agg #[.slice A0_0 l0_0.length c0_0], .int .i64 0, .string (⟨#[]⟩ : ByteArray), .int .i64 0] ?_; (with_reducible refine (spec_l7Walk.calls k1 _ _ l0_0 0 (⟨#[]⟩ : ByteArray) 0 t298 t301 _ ?side1 HC0_0.out A31.out).mono ?_); (case side1 => repeat (first | exact (k4_ HR0_0.out HB.out) | with_reducible first | apply cA_ | apply cN_ | apply cD_)); rintro e w38 ⟨v299, rfl, ho0, hb⟩; refine ⟨_, rfl, ?_⟩; have HO300 := aM_ (k5_ ho0 (bZ_ HB.out)); replace BK290 := b5_ BK290 hb; replace HB := b4_ HB hb; (try clear hb); (try clear ho0); obtain ⟨Ao39, co39, eo39⟩ := kS_ HO300.out; subst eo39) | (refine gs_ 63 Tryz.func75 #[.slice Ao39 t298.length co39] ?_; (with_reducible refine (spec_l2Set.calls k1 _ _ t298 t302 true _ ?side1 ?side2 A32.out).mono ?_); (case side1 => repeat (first | exact (kR_ HO300.out).2.2 | with_reducible first | apply cA_ | apply cN_ | apply cD_)); (case side2 => exact (kR_ HO300.out).2.1); rintro e w40 ⟨v304, rfl, ho0, hb⟩; refine ⟨_, rfl, ?_⟩; have HO305 := aM_ (k5_ (Kd.R_new' ho0 (Kd.R_lt HO300.out)) (bZ_ HB.out)); replace HO300 := aM_ (Kd.R_elder' HO300.out (Kd.R_base ho0) hb); replace BK290 := b5_ BK290 hb; replace HB := b4_ HB hb; (try clear hb); (try clear ho0)))
   have n0_ := aM_ (k3_ HO300.out)
   have n1_ := aM_ (k3_ HO305.out)
   have n2_ := aM_ (b1_ BK290.out)
   have n3_ := aM_ (bD_ HB.out)
   clear HO300
   clear HO305
   clear BK290
   clear HB
   have HO300 := n0_
   have HO305 := n1_
   have BK290 := n2_
   have HB := n3_
   clear n0_ n1_ n2_ n3_
   obtain ⟨Ao42, co42, eo42⟩ := kS_ HO305.out
   (subst eo42)
   refine start_ (n := 9) (S := fun w' => w'.cell? ⟨gb290, 0, none⟩ = some (.slice A0_0 l0_0.length c0_0)) (ds := []) #[fy, fy, fy, fy, fy, fy, fy, fy, fy] (by kernel_rfl) rfl rfl ((bC_ BK290.out 0).trans rfl) (fun hHeld => ?_); refine with_tabW spec_l7Valid.tab14 spec_l7Valid.bits14 (fun HT_ HW_ => ?_)
   generalize w40.drew = w41 at HO300 HO305 BK290 HB hHeld ⊢
   refine pu_ HT_ 0 66 #[ty, fy, fy, fy, fy, fy, fy, fy, fy] ?_
   refine pu_ HT_ 1 67 #[ty, ty, fy, fy, fy, fy, fy, fy, fy] ?_
   refine pu_ HT_ 2 68 #[ty, ty, ty, fy, fy, fy, fy, fy, fy] ?_
   refine take_ (i := 5) (N := some 71) (v := ?_) (a' := ?_) #[ty, ty, ty, fy, fy, ty, fy, fy, fy] rfl rfl (tW_ HT_.out HW_.out (by kernel_rfl)) (fun _ _ _ h => h) (Or.inl ⟨by rfl, ?_⟩) hHeld ?_ ?_; rotate_left; (intro w' s0; go_simp; with_reducible rfl); rotate_left; (simp only [Act.put, sA_, sB_, sC_, i6_, i3_]; rfl)
   refine one_ (i := 3) (N := some 69) #[ty, ty, ty, ty, fy, ty, fy, fy, fy] rfl rfl (one_of HT_.out (by kernel_rfl)) (by decide) (fun K hK => ?_)
   refine goes_ Tryz.func48 (by kernel_rfl) rfl #[.slice Ao42 t302.length co42] (by rfl) rfl rfl (by (try simp only [sD_, sE_, sF_]); rfl) ?_
   with_reducible refine (spec_l2Of.calls k1 _ _ t302 t306 _ ?side1 ?side2 A34.out).mono ?_
   (case side1 => repeat (first | exact (kR_ HO305.out).2.2 | with_reducible first | apply cA_ | apply cN_ | apply cD_))
   (case side2 => exact (kR_ HO305.out).2.1)
   rintro e w43 ⟨v307, rfl, ho0, hb⟩
   refine ⟨_, rfl, ?_⟩
   have n0_ := k9_ HO300 hb
   have n1_ := k9_ HO305 hb
   have n2_ := aM_ (k5_ ho0 (bZ_ HB.out))
   have n3_ := b5_ BK290 hb
   have n4_ := b4_ HB hb
   clear HO300
   clear HO305
   clear BK290
   clear HB
   have HO300 := n0_
   have HO305 := n1_
   have HO308 := n2_
   have BK290 := n3_
   have HB := n4_
   clear n0_ n1_ n2_ n3_ n4_
   (try clear hb)
   (try clear ho0)
   obtain ⟨Ao44, co44, eo44⟩ := kS_ HO308.out
   (subst eo44)
   refine hK.out _ _ ((bC_ BK290.out 0).trans rfl) (fun hHeld => ?_)
   clear hK K
   refine norm_ (by show Act.put _ (some 69) _ = _; simp only [Act.put, sA_, sB_, sC_, i6_, i3_]; rfl) ?_
   refine one_ (i := 4) (N := some 70) #[ty, ty, ty, ty, ty, ty, fy, fy, fy] rfl rfl (one_of HT_.out (by kernel_rfl)) (by decide) (fun K hK => ?_)
   refine goes_ Tryz.func77 (by kernel_rfl) rfl #[.agg #[.slice Ao44 t306.length co44]] (by rfl) rfl rfl (by (try simp only [sD_, sE_, sF_]); rfl) ?_
   with_reducible refine (spec_l7Machine.calls k1 _ _ t306 t309 _ ?side1 ?side2 A35.out).mono ?_
   (case side1 => repeat (first | exact (kR_ HO308.out).2.2 | with_reducible first | apply cA_ | apply cN_ | apply cD_))
   (case side2 => exact (kR_ HO308.out).2.1)
   rintro e w45 ⟨v310, rfl, ho0, hb⟩
   refine ⟨_, rfl, ?_⟩
   have n0_ := k9_ HO300 hb
   have n1_ := k9_ HO305 hb
   have n2_ := k9_ HO308 hb
   have n3_ := aM_ (Kd.S_lower ho0 (bZ_ HB.out))
   have n4_ := b5_ BK290 hb
   have n5_ := b4_ HB hb
   clear HO300
   clear HO305
   clear HO308
   clear BK290
   clear HB
   have HO300 := n0_
   have HO305 := n1_
   have HO308 := n2_
   have HO311 := n3_
   have BK290 := n4_
   have HB := n5_
   clear n0_ n1_ n2_ n3_ n4_ n5_
   (try clear hb)
   (try clear ho0)
   obtain ⟨Ao46, co46, eo46⟩ := Kd.S_slice HO311.out
   (subst eo46)
   refine hK.out _ _ ((bC_ BK290.out 0).trans rfl) (fun hHeld => ?_)
   clear hK K
   refine norm_ (by show Act.put _ (some 70) _ = _; simp only [Act.put, sA_, sB_, sC_, i6_, i3_]; rfl) ?_
   refine one_ (i := 6) (N := some 72) #[ty, ty, ty, ty, ty, ty, ty, fy, fy] rfl rfl (one_of HT_.out (by kernel_rfl)) (by decide) (fun K hK => ?_)
   refine goes_ Tryz.func76 (by kernel_rfl) rfl #[.agg #[.slice Ao46 t309.length co46], .agg #[.slice A0_0 l0_0.length c0_0]] (by rfl) rfl rfl (by (try simp only [sD_, sE_, sF_]); rfl) ?_
   with_reducible refine (spec_l7Same.calls k1 _ _ t309 _ _ l0_0 t312 _ ?side1 ?side2 ?side3 ?side4 A36.out).mono ?_
   (case side1 => repeat (first | exact (Kd.S_reads' HO311.out).2.2 | with_reducible first | apply cA_ | apply cN_ | apply cD_))
   (case side2 => exact (Kd.S_reads' HO311.out).2.1)
   (case side3 => repeat (first | exact (k4_ HR0_0.out HB.out) | with_reducible first | apply cA_ | apply cN_ | apply cD_))
   (case side4 => exact HC0_0.out)
   rintro e w47 ⟨rfl, hb⟩
   refine ⟨_, rfl, ?_⟩
   have n0_ := k9_ HO300 hb
   have n1_ := k9_ HO305 hb
   have n2_ := k9_ HO308 hb
   have n3_ := aM_ (Kd.S_below (by (with_reducible repeat (first | apply Kd.S_alloc | apply Kd.S_drewN | apply Kd.S_drew)); exact HO311.out) hb)
   have n4_ := b5_ BK290 hb
   have n5_ := b4_ HB hb
   clear HO300
   clear HO305
   clear HO308
   clear HO311
   clear BK290
   clear HB
   have HO300 := n0_
   have HO305 := n1_
   have HO308 := n2_
   have HO311 := n3_
   have BK290 := n4_
   have HB := n5_
   clear n0_ n1_ n2_ n3_ n4_ n5_
   (try clear hb)
   refine hK.out _ _ ((bC_ BK290.out 0).trans rfl) (fun hHeld => ?_)
   clear hK K
   refine norm_ (by show Act.put _ (some 72) _ = _; simp only [Act.put, sA_, sB_, sC_, i6_, i3_]; rfl) ?_
   refine pu_ HT_ 7 73 #[ty, ty, ty, ty, ty, ty, ty, ty, fy] ?_
   refine pu_ HT_ 8 2 #[ty, ty, ty, ty, ty, ty, ty, ty, ty] ?_
   refine done_ (done_of HT_.out (by kernel_rfl)) ?_
   try go_wp2
   go_ret
   exact ⟨by rfl, by exact HB.out⟩
  rw [if_pos c6] at H
  have c6b0 := dT_ c6
  clear c6
  have H' := aM_ H
  clear H
  have hcz7_0 := c0_ BK290
  have hfz7_0 := bF_ BK290.out 0
  go_wp2
  go_loopg [4] k1 (fun kq v4 w' => ∃ (x4_2 : Int), v4 = .int .i64 x4_2 ∧ Aside0 (spec_l7Valid.l1 kq x3_1 x4_2 l0_0 = some r) ∧ Aside0 (kq ≤ k1) ∧ Aside0 (w'.heap[gb290]? = some (.cells #[(.slice A0_0 l0_0.length c0_0)] 33 (0, 0))) ∧ Aside0 (Below w.heap.size w w'))
  case atStart => exact ⟨(0), (by rfl), H', ⟨Nat.le_refl _⟩, ⟨BK290.out⟩, ⟨HB.out⟩⟩
  clear H'
  try clear p2
  try clear c6b0
  try clear hcz5_0
  try clear hcz7_0
  try clear hfz5_0
  try clear hfz7_0
  try clear p2
  obtain ⟨x4_2, rfl, HA, HK2, BK290, HB⟩ := hrel
  cases gk with
  | zero => exact absurd HA.out (by simp [spec_l7Valid.l1])
  | succ k2 =>
   have H := HA.out
   clear HA
   simp only [spec_l7Valid.l1] at H
   by_cases c8 : 0 ≤ x3_1
   rotate_left
   ·
    rw [if_neg c8] at H
    exact absurd H (by simp)
   rw [if_pos c8] at H
   have c8b0 := dT_ c8
   clear c8
   by_cases c9 : x3_1 < (l0_0.length : Int)
   rotate_left
   ·
    rw [if_neg c9] at H
    exact absurd H (by simp)
   rw [if_pos c9] at H
   have c9b0 := dT_ c9
   clear c9
   by_cases c10 : x4_2 < (((rd_T72 l0_0 x3_1).f1).length : Int)
   rotate_left
   ·
    rw [if_neg c10] at H
    have c10b0 := dF_ c10
    clear c10
    have H' := aM_ H
    clear H
    have hcz30_0 := c0_ BK290
    have hfz30_0 := bF_ BK290.out 0
    have p292 : 0 ≤ (x3_1 : Int) := oD_ ‹_›
    have q292 : x3_1 < (l0_0.length : Int) := oD_ ‹_›
    obtain ⟨ad292, A292_1, c292_1, e292, hx292_0, hx292_1, hl292_1, hi292_1⟩ := at_T72 HR0_0.out x3_1 p292 q292
    cases e292
    replace hx292_0 := cb_ HB hx292_0
    replace hx292_1 := cb_ HB hx292_1
    have HR292_1 := aM_ hi292_1
    have HC292_1 := aM_ hl292_1
    clear hi292_1 hl292_1
    replace p292 := eq_true p292
    replace q292 := eq_true q292
    go_wp2
    go_roundg k2
    case measure => have := HK1.out; have := HK2.out; omega
    case rel => exact ⟨(wrap64 (x3_1 + 1)), (by rfl), H', ⟨by have := HK1.out; have := HK2.out; omega⟩, ⟨BK290.out⟩, ⟨HB.out⟩⟩
   rw [if_pos c10] at H
   have c10b0 := dT_ c10
   clear c10
   by_cases c11 : 0 ≤ x4_2
   rotate_left
   ·
    rw [if_neg c11] at H
    exact absurd H (by simp)
   rw [if_pos c11] at H
   have c11b0 := dT_ c11
   clear c11
   replace H := oB_.mp H
   obtain ⟨t296, A120, H⟩ := H
   try dsimp only at H
   have A12 := aM_ A120
   clear A120
   by_cases c13 : t296 = true
   rotate_left
   ·
    replace c13 := Bool.eq_false_iff.mpr c13
    subst c13
    replace H : (some false) = some r := by rw [if_neg (show ¬ (false = true) by decide)] at H; exact H
    obtain rfl := Option.some.inj H
    have hcz26_0 := c0_ BK290
    have hfz26_0 := bF_ BK290.out 0
    have p292 : 0 ≤ (x3_1 : Int) := oD_ ‹_›
    have q292 : x3_1 < (l0_0.length : Int) := oD_ ‹_›
    obtain ⟨ad292, A292_1, c292_1, e292, hx292_0, hx292_1, hl292_1, hi292_1⟩ := at_T72 HR0_0.out x3_1 p292 q292
    cases e292
    replace hx292_0 := cb_ HB hx292_0
    replace hx292_1 := cb_ HB hx292_1
    have HR292_1 := aM_ hi292_1
    have HC292_1 := aM_ hl292_1
    clear hi292_1 hl292_1
    replace p292 := eq_true p292
    replace q292 := eq_true q292
    have p293 : 0 ≤ (x3_1 : Int) := oD_ ‹_›
    have q293 : x3_1 < (l0_0.length : Int) := oD_ ‹_›
    obtain ⟨ad293, A293_1, c293_1, e293, hx293_0, hx293_1, hl293_1, hi293_1⟩ := at_T72 HR0_0.out x3_1 p293 q293
    obtain rfl : ad292 = ad293 := (by injection e293)
    replace hx293_0 := cb_ HB hx293_0
    replace hx293_1 := cb_ HB hx293_1
    have HR293_1 := aM_ hi293_1
    have HC293_1 := aM_ hl293_1
    clear hi293_1 hl293_1
    replace p293 := eq_true p293
    replace q293 := eq_true q293
    have ea_ := Option.some.inj (hx292_1.symm.trans hx293_1)
    injection ea_ with ea_ en_ ec_
    subst ea_
    subst ec_
    clear en_
    have p294 : 0 ≤ (x4_2 : Int) := oD_ ‹_›
    have q294 : x4_2 < (((rd_T72 l0_0 x3_1).f1).length : Int) := oD_ ‹_›
    obtain ⟨ad294, e294, hx294_0, hx294_1⟩ := at_T88 HR293_1.out x4_2 p294 q294
    cases e294
    replace hx294_0 := cb_ HB hx294_0
    replace hx294_1 := cb_ HB hx294_1
    replace p294 := eq_true p294
    replace q294 := eq_true q294
    go_wp2_with (first | ((with_reducible refine gD_ (N := 5) rfl ?_); (try (refine gate_guard (by rfl) ?_; dsimp only)); refine bE_ ?hg (N := 5) ?hd (cs := #[.int .i64 0, .int .i64 0]) (t := 88) ?hr ?_; (case hd => rfl); (case hg => rfl); (case hr => (go_simp; done)); intro gb295 hg w27 hbox hb; have BK295 := aM_ (hbox); have GW295 := gw_ hg HB; replace HB := b4_ HB hb; have NB290_295 := nb_ hg BK290; have NB295_290 := ns_ NB290_295; replace BK290 := b5_ BK290 hb; clear hb hbox hg; have hnb28 := NB295_290.out; have hnc28 := NB290_295.out; have hcz29_0 := c0_ BK295; have hcz29_1 := c1_ BK295; have hfz29_0 := bF_ BK295.out 0; have hfz29_1 := bF_ BK295.out 1) | (refine gs_ 44 Tryz.func62 #[.int .i64 ((rd_T88 ((rd_T72 l0_0 x3_1).f1) x4_2).f0), .int .i64 0, .int .i64 25] ?_; (with_reducible refine (spec_l1In.calls ((rd_T88 ((rd_T72 l0_0 x3_1).f1) x4_2).f0) 0 25 false _ A12.out).mono ?_); rintro e w' ⟨rfl, ⟨nd, rfl⟩⟩; refine ⟨_, rfl, ?_⟩))
    go_ret
    exact ⟨by rfl, by repeat with_reducible first | exact HB.out | apply bA_ | apply bN_ | apply bD_ | refine bS_ ?_ (Aside0.out ‹_›)⟩
   subst c13
   rw [if_pos rfl] at H
   replace H := oB_.mp H
   obtain ⟨t297, A140, H⟩ := H
   try dsimp only at H
   have A14 := aM_ A140
   clear A140
   by_cases c15 : t297 = true
   ·
    subst c15
    rw [if_pos rfl] at H
    have H' := aM_ H
    clear H
    have hcz16_0 := c0_ BK290
    have hfz16_0 := bF_ BK290.out 0
    have p292 : 0 ≤ (x3_1 : Int) := oD_ ‹_›
    have q292 : x3_1 < (l0_0.length : Int) := oD_ ‹_›
    obtain ⟨ad292, A292_1, c292_1, e292, hx292_0, hx292_1, hl292_1, hi292_1⟩ := at_T72 HR0_0.out x3_1 p292 q292
    cases e292
    replace hx292_0 := cb_ HB hx292_0
    replace hx292_1 := cb_ HB hx292_1
    have HR292_1 := aM_ hi292_1
    have HC292_1 := aM_ hl292_1
    clear hi292_1 hl292_1
    replace p292 := eq_true p292
    replace q292 := eq_true q292
    have p293 : 0 ≤ (x3_1 : Int) := oD_ ‹_›
    have q293 : x3_1 < (l0_0.length : Int) := oD_ ‹_›
    obtain ⟨ad293, A293_1, c293_1, e293, hx293_0, hx293_1, hl293_1, hi293_1⟩ := at_T72 HR0_0.out x3_1 p293 q293
    obtain rfl : ad292 = ad293 := (by injection e293)
    replace hx293_0 := cb_ HB hx293_0
    replace hx293_1 := cb_ HB hx293_1
    have HR293_1 := aM_ hi293_1
    have HC293_1 := aM_ hl293_1
    clear hi293_1 hl293_1
    replace p293 := eq_true p293
    replace q293 := eq_true q293
    have ea_ := Option.some.inj (hx292_1.symm.trans hx293_1)
    injection ea_ with ea_ en_ ec_
    subst ea_
    subst ec_
    clear en_
    have p294 : 0 ≤ (x4_2 : Int) := oD_ ‹_›
    have q294 : x4_2 < (((rd_T72 l0_0 x3_1).f1).length : Int) := oD_ ‹_›
    obtain ⟨ad294, e294, hx294_0, hx294_1⟩ := at_T88 HR293_1.out x4_2 p294 q294
    cases e294
    replace hx294_0 := cb_ HB hx294_0
    replace hx294_1 := cb_ HB hx294_1
    replace p294 := eq_true p294
    replace q294 := eq_true q294
    go_wp2_with (first | ((with_reducible refine gD_ (N := 5) rfl ?_); (try (refine gate_guard (by rfl) ?_; dsimp only)); refine bE_ ?hg (N := 5) ?hd (cs := #[.int .i64 0, .int .i64 0]) (t := 88) ?hr ?_; (case hd => rfl); (case hg => rfl); (case hr => (go_simp; done)); intro gb295 hg w17 hbox hb; have BK295 := aM_ (hbox); have GW295 := gw_ hg HB; replace HB := b4_ HB hb; have NB290_295 := nb_ hg BK290; have NB295_290 := ns_ NB290_295; replace BK290 := b5_ BK290 hb; clear hb hbox hg; have hnb18 := NB295_290.out; have hnc18 := NB290_295.out; have hcz19_0 := c0_ BK295; have hcz19_1 := c1_ BK295; have hfz19_0 := bF_ BK295.out 0; have hfz19_1 := bF_ BK295.out 1) | (refine gs_ 44 Tryz.func62 #[.int .i64 ((rd_T88 ((rd_T72 l0_0 x3_1).f1) x4_2).f0), .int .i64 0, .int .i64 25] ?_; (with_reducible refine (spec_l1In.calls ((rd_T88 ((rd_T72 l0_0 x3_1).f1) x4_2).f0) 0 25 true _ A12.out).mono ?_); rintro e w' ⟨rfl, ⟨nd, rfl⟩⟩; refine ⟨_, rfl, ?_⟩; have hcz20_0 := c0_ BK290; have hfz20_0 := bF_ BK290.out 0) | (go_at_call 62; (with_reducible refine (spec_l1In.calls ((rd_T88 ((rd_T72 l0_0 x3_1).f1) x4_2).f1) 0 (wrap64 ((l0_0.length : Int) - 1)) true _ A14.out).mono ?_); rintro e w' ⟨rfl, ⟨nd, rfl⟩⟩))
    go_roundg k2
    case measure => have := HK1.out; have := HK2.out; omega
    case rel => exact ⟨(wrap64 (x4_2 + 1)), (by rfl), H', ⟨by have := HK1.out; have := HK2.out; omega⟩, ⟨by (with_reducible repeat (first | refine b2_ ?_ _ | refine b1_ ?_ | refine b3_ ?_ _)); exact br_ NB290_295.out (br_ NB290_295.out (BK290.out))⟩, ⟨by repeat with_reducible first | exact HB.out | apply bA_ | apply bN_ | apply bD_ | refine bS_ ?_ (Aside0.out ‹_›)⟩⟩
   replace c15 := Bool.eq_false_iff.mpr c15
   subst c15
   replace H : (some false) = some r := by rw [if_neg (show ¬ (false = true) by decide)] at H; exact H
   obtain rfl := Option.some.inj H
   have hcz21_0 := c0_ BK290
   have hfz21_0 := bF_ BK290.out 0
   have p292 : 0 ≤ (x3_1 : Int) := oD_ ‹_›
   have q292 : x3_1 < (l0_0.length : Int) := oD_ ‹_›
   obtain ⟨ad292, A292_1, c292_1, e292, hx292_0, hx292_1, hl292_1, hi292_1⟩ := at_T72 HR0_0.out x3_1 p292 q292
   cases e292
   replace hx292_0 := cb_ HB hx292_0
   replace hx292_1 := cb_ HB hx292_1
   have HR292_1 := aM_ hi292_1
   have HC292_1 := aM_ hl292_1
   clear hi292_1 hl292_1
   replace p292 := eq_true p292
   replace q292 := eq_true q292
   have p293 : 0 ≤ (x3_1 : Int) := oD_ ‹_›
   have q293 : x3_1 < (l0_0.length : Int) := oD_ ‹_›
   obtain ⟨ad293, A293_1, c293_1, e293, hx293_0, hx293_1, hl293_1, hi293_1⟩ := at_T72 HR0_0.out x3_1 p293 q293
   obtain rfl : ad292 = ad293 := (by injection e293)
   replace hx293_0 := cb_ HB hx293_0
   replace hx293_1 := cb_ HB hx293_1
   have HR293_1 := aM_ hi293_1
   have HC293_1 := aM_ hl293_1
   clear hi293_1 hl293_1
   replace p293 := eq_true p293
   replace q293 := eq_true q293
   have ea_ := Option.some.inj (hx292_1.symm.trans hx293_1)
   injection ea_ with ea_ en_ ec_
   subst ea_
   subst ec_
   clear en_
   have p294 : 0 ≤ (x4_2 : Int) := oD_ ‹_›
   have q294 : x4_2 < (((rd_T72 l0_0 x3_1).f1).length : Int) := oD_ ‹_›
   obtain ⟨ad294, e294, hx294_0, hx294_1⟩ := at_T88 HR293_1.out x4_2 p294 q294
   cases e294
   replace hx294_0 := cb_ HB hx294_0
   replace hx294_1 := cb_ HB hx294_1
   replace p294 := eq_true p294
   replace q294 := eq_true q294
   go_wp2_with (first | ((with_reducible refine gD_ (N := 5) rfl ?_); (try (refine gate_guard (by rfl) ?_; dsimp only)); refine bE_ ?hg (N := 5) ?hd (cs := #[.int .i64 0, .int .i64 0]) (t := 88) ?hr ?_; (case hd => rfl); (case hg => rfl); (case hr => (go_simp; done)); intro gb295 hg w22 hbox hb; have BK295 := aM_ (hbox); have GW295 := gw_ hg HB; replace HB := b4_ HB hb; have NB290_295 := nb_ hg BK290; have NB295_290 := ns_ NB290_295; replace BK290 := b5_ BK290 hb; clear hb hbox hg; have hnb23 := NB295_290.out; have hnc23 := NB290_295.out; have hcz24_0 := c0_ BK295; have hcz24_1 := c1_ BK295; have hfz24_0 := bF_ BK295.out 0; have hfz24_1 := bF_ BK295.out 1) | (refine gs_ 44 Tryz.func62 #[.int .i64 ((rd_T88 ((rd_T72 l0_0 x3_1).f1) x4_2).f0), .int .i64 0, .int .i64 25] ?_; (with_reducible refine (spec_l1In.calls ((rd_T88 ((rd_T72 l0_0 x3_1).f1) x4_2).f0) 0 25 true _ A12.out).mono ?_); rintro e w' ⟨rfl, ⟨nd, rfl⟩⟩; refine ⟨_, rfl, ?_⟩; have hcz25_0 := c0_ BK290; have hfz25_0 := bF_ BK290.out 0) | (go_at_call 62; (with_reducible refine (spec_l1In.calls ((rd_T88 ((rd_T72 l0_0 x3_1).f1) x4_2).f1) 0 (wrap64 ((l0_0.length : Int) - 1)) false _ A14.out).mono ?_); rintro e w' ⟨rfl, ⟨nd, rfl⟩⟩))
   go_ret
   exact ⟨by rfl, by repeat with_reducible first | exact HB.out | apply bA_ | apply bN_ | apply bD_ | refine bS_ ?_ (Aside0.out ‹_›)⟩
end Go.Proofs.YtnnkedeohfbkeaaGreatDoor.P
namespace Go.Proofs.YtnnkedeohfbkeaaGreatDoor.M
theorem txt_lt_snoc : ∀ (p : Txt) (x : UInt8), p < p ++ [x]
 | [], x => List.nil_lt_cons x []
 | a :: p, x => List.cons_lt_cons_iff.2 (.inr ⟨rfl, txt_lt_snoc p x⟩)
theorem dropLast_getD (p : Txt) (h : p ≠ []) : p.dropLast ++ [p.getD (p.length - 1) 0] = p := by
 have h0 := List.length_pos_iff.2 h
 have h1 : p.length - 1 < p.length := by omega
 rw [List.dropLast_eq_take, getD_lt 0 h1, ← List.take_succ_eq_append_getElem h1, List.take_of_length_le (by omega)]
theorem txt_dropLast_lt (p : Txt) (h : p ≠ []) : p.dropLast < p := by
 have := txt_lt_snoc p.dropLast (p.getD (p.length - 1) 0)
 rwa [dropLast_getD p h] at this
def Clo (P : List Txt) : Prop := [] ∈ P ∧ ∀ p ∈ P, p ≠ [] → p.dropLast ∈ P
def begs (w : Txt) : List Txt := (List.range w.length).map fun n => w.take (n + 1)
def preL (ws : List Txt) : List Txt := setL ([] :: ws.flatMap begs)
theorem mem_begs {w p : Txt} : p ∈ begs w ↔ p ≠ [] ∧ p <+: w := by
 constructor
 ·
  intro h
  obtain ⟨n, hn, rfl⟩ := List.mem_map.1 h
  rw [List.mem_range] at hn
  exact ⟨fun e => by have := congrArg List.length e; rw [List.length_take, List.length_nil] at this; omega, List.take_prefix _ _⟩
 rintro ⟨h1, h2⟩
 have h3 := h2.length_le
 have h4 := List.length_pos_iff.2 h1
 refine List.mem_map.2 ⟨p.length - 1, List.mem_range.2 (by omega), ?_⟩
 rw [show p.length - 1 + 1 = p.length from by omega]
 exact (List.prefix_iff_eq_take.1 h2).symm
theorem mem_preL {ws : List Txt} {p : Txt} : p ∈ preL ws ↔ p = [] ∨ ∃ w ∈ ws, p ≠ [] ∧ p <+: w := by
 unfold preL
 rw [mem_setL, List.mem_cons, List.mem_flatMap]
 simp only [mem_begs]
theorem clo_preL (ws : List Txt) : Clo (preL ws) := by
 refine ⟨mem_preL.2 (.inl rfl), fun p hp hne => ?_⟩
 rcases mem_preL.1 hp with rfl | ⟨w, hw, _, h⟩
 ·
  exact absurd rfl hne
 by_cases h0 : p.dropLast = []
 ·
  rw [h0]; exact mem_preL.2 (.inl rfl)
 exact mem_preL.2 (.inr ⟨w, hw, h0, (List.dropLast_prefix p).trans h⟩)
theorem asc_preL (ws : List Txt) : Asc (preL ws) := asc_setL _
theorem self_preL {ws : List Txt} {w : Txt} (h : w ∈ ws) : w ∈ preL ws := by
 by_cases h0 : w = []
 ·
  rw [h0]; exact mem_preL.2 (.inl rfl)
 exact mem_preL.2 (.inr ⟨w, h, h0, List.prefix_refl _⟩)
theorem foldl_putL_len : ∀ (l acc : List Txt), (l.foldl putL acc).length ≤ acc.length + l.length
 | [], _ => Nat.le_refl _
 | x :: l, acc => by
  have h1 := foldl_putL_len l (putL acc x)
  have h2 := putL_length_le acc x
  rw [List.foldl_cons, List.length_cons]; omega
theorem setL_length_le (l : List Txt) : (setL l).length ≤ l.length := by have := foldl_putL_len l []; simpa [setL] using this
theorem begs_length (w : Txt) : (begs w).length = w.length := by simp [begs]
theorem flatMap_begs_length : ∀ (ws : List Txt), (∀ w ∈ ws, w.length ≤ 12) → (ws.flatMap begs).length ≤ 12 * ws.length
 | [], _ => by simp
 | w :: ws, h => by
  have h1 := flatMap_begs_length ws fun x hx => h x (List.mem_cons_of_mem _ hx)
  have h2 := h w (by simp)
  rw [List.flatMap_cons, List.length_append, begs_length, List.length_cons]; omega
theorem preL_length {ws : List Txt} (h : ∀ w ∈ ws, w.length ≤ 12) : (preL ws).length ≤ 12 * ws.length + 1 := by
 have h1 := flatMap_begs_length ws h
 have h2 := setL_length_le ([] :: ws.flatMap begs)
 unfold preL
 rw [List.length_cons] at h2
 omega
def placeL : List Txt → Txt → Nat
 | [], _ => 0
 | x :: r, p => if x = p then 0 else placeL r p + 1
theorem placeL_mem : ∀ {P : List Txt} {p : Txt}, p ∈ P → placeL P p < P.length ∧ P.getD (placeL P p) [] = p
 | [], _, h => by simp at h
 | x :: r, p, h => by
  by_cases h0 : x = p
  ·
   simp [placeL, h0]
  have h1 : p ∈ r := by
   rcases List.mem_cons.1 h with e | e
   ·
    exact absurd e.symm h0
   exact e
  obtain ⟨h2, h3⟩ := placeL_mem h1
  simp only [placeL, if_neg h0, List.length_cons]
  exact ⟨by omega, by simpa using h3⟩
theorem getD_mem {P : List Txt} {i : Nat} (h : i < P.length) : P.getD i [] ∈ P := by rw [getD_lt [] h]; exact List.getElem_mem h
theorem asc_get {P : List Txt} (hA : Asc P) {i j : Nat} (hj : j < P.length) (hij : i < j) : P.getD i [] < P.getD j [] := by
 have := List.pairwise_iff_getElem.1 hA i j (by omega) hj hij
 rwa [getD_lt [] hj, getD_lt [] (show i < P.length by omega)]
theorem asc_get_lt {P : List Txt} (hA : Asc P) {i j : Nat} (hi : i < P.length) (hj : j < P.length) (h : P.getD i [] < P.getD j []) : i < j := by
 rcases Nat.lt_trichotomy i j with h1 | h1 | h1
 ·
  exact h1
 ·
  subst h1; exact absurd h (txt_irrefl _)
 exact absurd (asc_get hA hi h1) (txt_asymm h)
theorem asc_inj {P : List Txt} (hA : Asc P) {i j : Nat} (hi : i < P.length) (hj : j < P.length) (h : P.getD i [] = P.getD j []) : i = j := by
 rcases Nat.lt_trichotomy i j with h1 | h1 | h1
 ·
  exact absurd (h ▸ asc_get hA hj h1) (txt_irrefl _)
 ·
  exact h1
 exact absurd (h ▸ asc_get hA hi h1) (txt_irrefl _)
theorem placeL_get {P : List Txt} (hA : Asc P) {i : Nat} (hi : i < P.length) : placeL P (P.getD i []) = i := by
 obtain ⟨h1, h2⟩ := placeL_mem (getD_mem hi)
 exact asc_inj hA h1 hi h2
theorem clo_zero {P : List Txt} (hA : Asc P) (hC : Clo P) : 0 < P.length ∧ P.getD 0 [] = [] := by
 obtain ⟨h1, h2⟩ := placeL_mem hC.1
 refine ⟨by omega, ?_⟩
 rcases Nat.eq_zero_or_pos (placeL P []) with h0 | h0
 ·
  rwa [h0] at h2
 have := asc_get hA h1 h0
 rw [h2] at this
 exact absurd this (List.not_lt_nil _)
theorem clo_pos {P : List Txt} (hA : Asc P) (hC : Clo P) {i : Nat} (hi : i < P.length) (h0 : 0 < i) : P.getD i [] ≠ [] := fun e => by
 obtain ⟨h1, h2⟩ := clo_zero hA hC
 have := asc_inj hA hi h1 (e.trans h2.symm)
 omega
theorem clo_parent {P : List Txt} (hA : Asc P) (hC : Clo P) {i : Nat} (hi : i < P.length) (h0 : 0 < i) :
  placeL P (P.getD i []).dropLast < i ∧ P.getD (placeL P (P.getD i []).dropLast) [] = (P.getD i []).dropLast := by
 have hne := clo_pos hA hC hi h0
 obtain ⟨h1, h2⟩ := placeL_mem (hC.2 _ (getD_mem hi) hne)
 exact ⟨asc_get_lt hA h1 hi (by rw [h2]; exact txt_dropLast_lt _ hne), h2⟩
def ltrOf (p : Txt) : Int := (((p.getD (p.length - 1) 0).toNat : Int) - 97) % 256
def ndL (P ws : List Txt) (p : Txt) : Int × Int × Bool := (if p = [] then -1 else ltrOf p, if p = [] then -1 else (placeL P p.dropLast : Int), decide (p ∈ ws))
def nodesL (P ws : List Txt) : List (Int × Int × Bool) := P.map (ndL P ws)
def wordL (w : Txt) : Bool := w.all letterB && decide (w.length ≤ 12)
structure OkW (ws : List Txt) : Prop where
 asc : Asc ws
 len : ws.length ≤ 40
 word : ∀ w ∈ ws, wordL w = true
theorem wordL_iff {w : Txt} : wordL w = true ↔ (∀ c ∈ w, letterB c = true) ∧ w.length ≤ 12 := by
 unfold wordL
 rw [Bool.and_eq_true, List.all_eq_true, decide_eq_true_eq]
theorem OkW.le {ws : List Txt} (h : OkW ws) : ∀ w ∈ ws, w.length ≤ 12 := fun w hw => (wordL_iff.1 (h.word w hw)).2
theorem OkW.pre {ws : List Txt} (h : OkW ws) : (preL ws).length ≤ 481 := by
 have h1 := preL_length h.le
 have h2 := h.len
 omega
theorem wordL_pre {p w : Txt} (h : p <+: w) (hw : wordL w = true) : wordL p = true := by
 obtain ⟨h1, h2⟩ := wordL_iff.1 hw
 exact wordL_iff.2 ⟨fun c hc => h1 c (h.subset hc), Nat.le_trans h.length_le h2⟩
theorem preL_word {ws : List Txt} (h : ∀ w ∈ ws, wordL w = true) {p : Txt} (hp : p ∈ preL ws) : wordL p = true := by
 rcases mem_preL.1 hp with rfl | ⟨w, hw, _, h1⟩
 ·
  rfl
 exact wordL_pre h1 (h w hw)
theorem letter_bd {c : UInt8} (h : letterB c = true) : 97 ≤ c.toNat ∧ c.toNat ≤ 122 := by simpa [letterB] using h
theorem getLast_mem {p : Txt} (h : p ≠ []) : p.getD (p.length - 1) 0 ∈ p := by
 have := List.length_pos_iff.2 h
 rw [getD_lt 0 (show p.length - 1 < p.length by omega)]
 exact List.getElem_mem _
theorem ltrOf_bd {p : Txt} (hw : wordL p = true) (h : p ≠ []) : ltrOf p = ((p.getD (p.length - 1) 0).toNat : Int) - 97 ∧ 0 ≤ ltrOf p ∧ ltrOf p ≤ 25 := by
 have h1 := letter_bd ((wordL_iff.1 hw).1 _ (getLast_mem h))
 unfold ltrOf
 omega
theorem filter_preL {ws : List Txt} (h : Asc ws) : (preL ws).filter (fun p => decide (p ∈ ws)) = ws := by
 refine asc_ext _ _ ((asc_preL ws).filter _) h fun y => ?_
 rw [List.mem_filter, decide_eq_true_eq]
 exact ⟨fun h => h.2, fun h => ⟨self_preL h, h⟩⟩
def kidsL (P : List Txt) (p : Txt) : List Txt := P.filter fun q => decide (q ≠ [] ∧ q.dropLast = p)
def hasPre (s p : List UInt8) : Bool := s.take p.length == p
theorem hasPre_pre {s p : Txt} : hasPre s p = true ↔ p <+: s := by
 unfold hasPre
 rw [beq_iff_eq]
 exact ⟨fun h => h ▸ List.take_prefix _ _, fun h => (List.prefix_iff_eq_take.1 h).symm⟩
def behL (ws : List Txt) (p : Txt) : List Txt := (ws.filter fun w => hasPre w p).map fun w => w.drop p.length
def succL (b : List Txt) (c : UInt8) : List Txt := (b.filter fun w => hasPre w [c]).map fun w => w.drop 1
theorem mem_behL {ws : List Txt} {p x : Txt} : x ∈ behL ws p ↔ p ++ x ∈ ws := by
 unfold behL
 rw [List.mem_map]
 constructor
 ·
  rintro ⟨w, hw, rfl⟩
  obtain ⟨h1, h2⟩ := List.mem_filter.1 hw
  obtain ⟨r, rfl⟩ := hasPre_pre.1 h2
  rw [List.drop_left]
  exact h1
 intro h
 exact ⟨p ++ x, List.mem_filter.2 ⟨h, hasPre_pre.2 (List.prefix_append _ _)⟩, List.drop_left⟩
theorem mem_succL {b : List Txt} {c : UInt8} {x : Txt} : x ∈ succL b c ↔ c :: x ∈ b := mem_behL (p := [c])
theorem append_ltL : ∀ (p : Txt) {x y : Txt}, p ++ x < p ++ y → x < y
 | [], _, _, h => h
 | a :: p, x, y, h => by
  rcases List.cons_lt_cons_iff.1 h with h | ⟨_, h⟩
  ·
   exact absurd h (UInt8.lt_irrefl _)
  exact append_ltL p h
theorem lt_appendL : ∀ (p : Txt) {x y : Txt}, x < y → p ++ x < p ++ y
 | [], _, _, h => h
 | _ :: p, _, _, h => List.cons_lt_cons_iff.2 (.inr ⟨rfl, lt_appendL p h⟩)
theorem asc_behL {ws : List Txt} (h : Asc ws) (p : Txt) : Asc (behL ws p) := by
 unfold behL Asc
 rw [List.pairwise_map]
 refine List.Pairwise.imp_of_mem ?_ (List.Pairwise.filter _ h)
 intro a b ha hb hab
 obtain ⟨r, rfl⟩ := hasPre_pre.1 (List.mem_filter.1 ha).2
 obtain ⟨q, rfl⟩ := hasPre_pre.1 (List.mem_filter.1 hb).2
 rw [List.drop_left, List.drop_left]
 exact append_ltL p hab
theorem asc_succL {b : List Txt} (h : Asc b) (c : UInt8) : Asc (succL b c) := asc_behL h [c]
theorem behL_nil (ws : List Txt) (h : Asc ws) : behL ws [] = ws := asc_ext _ _ (asc_behL h _) h fun y => by rw [mem_behL]; rfl
theorem behL_snoc {ws : List Txt} (h : Asc ws) (p : Txt) (c : UInt8) : behL ws (p ++ [c]) = succL (behL ws p) c :=
 asc_ext _ _ (asc_behL h _) (asc_succL (asc_behL h _) _) fun y => by rw [mem_behL, mem_succL, mem_behL, List.append_assoc]; rfl
def letsL (b : List Txt) : List UInt8 := ((List.range 26).map fun n => UInt8.ofNat (97 + n)).filter fun c => b.any fun w => hasPre w [c]
structure Res (n : Nat) (b : List Txt) : Prop where
 asc : Asc b
 let_ : ∀ w ∈ b, ∀ c ∈ w, letterB c = true
 len : ∀ w ∈ b, w.length ≤ n
theorem mem_letsL {n : Nat} {b : List Txt} (h : Res n b) {c : UInt8} : c ∈ letsL b ↔ ∃ x, c :: x ∈ b := by
 unfold letsL
 rw [List.mem_filter, List.any_eq_true]
 constructor
 ·
  rintro ⟨_, w, hw, hp⟩
  obtain ⟨r, rfl⟩ := hasPre_pre.1 hp
  exact ⟨r, hw⟩
 rintro ⟨x, hx⟩
 refine ⟨?_, _, hx, hasPre_pre.2 ⟨x, rfl⟩⟩
 have h1 := letter_bd (h.let_ _ hx c List.mem_cons_self)
 refine List.mem_map.2 ⟨c.toNat - 97, List.mem_range.2 (by omega), ?_⟩
 rw [show 97 + (c.toNat - 97) = c.toNat from by omega]
 simp
theorem letsL_ne {n : Nat} {b : List Txt} (h : Res n b) {c : UInt8} : c ∈ letsL b ↔ succL b c ≠ [] := by
 rw [mem_letsL h]
 constructor
 ·
  rintro ⟨x, hx⟩ e
  have := mem_succL.2 hx
  rw [e] at this
  cases this
 intro hne
 obtain ⟨x, hx⟩ := List.exists_mem_of_ne_nil _ hne
 exact ⟨x, mem_succL.1 hx⟩
theorem letsL_let {b : List Txt} {c : UInt8} (h : c ∈ letsL b) : 97 ≤ c.toNat ∧ c.toNat ≤ 122 := by
 obtain ⟨n, hn, rfl⟩ := List.mem_map.1 (List.mem_filter.1 h).1
 rw [List.mem_range] at hn
 simp
 omega
theorem letsL_asc (b : List Txt) : (letsL b).Pairwise (· < ·) := by
 unfold letsL
 refine List.Pairwise.filter _ ?_
 rw [List.pairwise_map]
 refine List.Pairwise.imp_of_mem ?_ (List.pairwise_lt_range (n := 26))
 intro a b ha hb hab
 rw [List.mem_range] at ha hb
 rw [UInt8.lt_iff_toNat_lt]
 simp
 omega
theorem letsL_length (b : List Txt) : (letsL b).length ≤ 26 := by
 unfold letsL
 refine Nat.le_trans (List.length_filter_le _ _) ?_
 simp
theorem Res.succ {n : Nat} {b : List Txt} (h : Res (n + 1) b) (c : UInt8) : Res n (succL b c) := by
 refine ⟨asc_succL h.asc c, fun w hw x hx => h.let_ _ (mem_succL.1 hw) x (List.mem_cons_of_mem _ hx), fun w hw => ?_⟩
 have := h.len _ (mem_succL.1 hw)
 rw [List.length_cons] at this
 omega
theorem Res.mono {n m : Nat} {b : List Txt} (h : Res n b) (hm : n ≤ m) : Res m b := ⟨h.asc, h.let_, fun w hw => Nat.le_trans (h.len w hw) hm⟩
theorem Res.zero_lets {b : List Txt} (h : Res 0 b) : letsL b = [] := by
 rw [List.eq_nil_iff_forall_not_mem]
 intro c hc
 obtain ⟨x, hx⟩ := (mem_letsL h).1 hc
 have := h.len _ hx
 simp at this
theorem Res.beh {ws : List Txt} (h : OkW ws) (p : Txt) : Res (12 - p.length) (behL ws p) := by
 refine ⟨asc_behL h.asc p, fun w hw c hc => ?_, fun w hw => ?_⟩
 ·
  exact (wordL_iff.1 (h.word _ (mem_behL.1 hw))).1 c (List.mem_append_right _ hc)
 have := h.le _ (mem_behL.1 hw)
 rw [List.length_append] at this
 omega
theorem Res.beh12 {ws : List Txt} (h : OkW ws) (p : Txt) : Res 12 (behL ws p) := (Res.beh h p).mono (by omega)
theorem decL {n : Nat} {b : List Txt} (h : Res n b) : b = (if [] ∈ b then [[]] else []) ++ (letsL b).flatMap fun c => (succL b c).map (c :: ·) := by
 refine asc_ext _ _ h.asc ?_ fun y => ?_
 ·
  unfold Asc
  rw [List.pairwise_append]
  refine ⟨by split <;> simp, ?_, ?_⟩
  ·
   rw [List.pairwise_flatMap]
   refine ⟨fun c _ => ?_, List.Pairwise.imp ?_ (letsL_asc b)⟩
   ·
    rw [List.pairwise_map]
    exact List.Pairwise.imp (fun hab => List.cons_lt_cons_iff.2 (.inr ⟨rfl, hab⟩)) (asc_succL h.asc c)
   intro c d hcd x hx y hy
   obtain ⟨x', _, rfl⟩ := List.mem_map.1 hx
   obtain ⟨y', _, rfl⟩ := List.mem_map.1 hy
   exact List.cons_lt_cons_iff.2 (.inl hcd)
  intro a ha x hx
  obtain rfl : a = [] := by
   split at ha
   ·
    exact List.mem_singleton.1 ha
   cases ha
  obtain ⟨c, _, hx⟩ := List.mem_flatMap.1 hx
  obtain ⟨x', _, rfl⟩ := List.mem_map.1 hx
  exact List.nil_lt_cons _ _
 rw [List.mem_append, List.mem_flatMap]
 constructor
 ·
  intro hy
  cases y with
  | nil => left; rw [if_pos hy]; exact List.mem_singleton.2 rfl
  | cons c y => exact .inr ⟨c, (mem_letsL h).2 ⟨y, hy⟩, List.mem_map.2 ⟨y, mem_succL.2 hy, rfl⟩⟩
 rintro (hy | ⟨c, _, hy⟩)
 ·
  split at hy
  ·
   rename_i h0; rw [List.mem_singleton.1 hy]; exact h0
  cases hy
 obtain ⟨x, hx, rfl⟩ := List.mem_map.1 hy
 exact mem_succL.1 hx
theorem res_eq {n m : Nat} {a b : List Txt} (ha : Res n a) (hb : Res m b) (h0 : decide ([] ∈ a) = decide ([] ∈ b)) (h1 : letsL a = letsL b) (h2 : ∀ c ∈ letsL a, succL a c = succL b c) : a = b := by
 rw [decL ha, decL hb, ← h1]
 have e0 : ([] ∈ a) ↔ ([] ∈ b) := by simpa using h0
 congr 1
 ·
  by_cases h : [] ∈ a
  ·
   rw [if_pos h, if_pos (e0.1 h)]
  rw [if_neg h, if_neg (fun k => h (e0.2 k))]
 rw [List.flatMap_def, List.flatMap_def]
 congr 1
 refine List.map_congr_left fun c hc => ?_
 rw [h2 c hc]
def cntL : Nat → List Txt → Nat
 | 0, _ => 1
 | n + 1, b => 1 + ((letsL b).map fun c => cntL n (succL b c)).sum
theorem cntL_le : ∀ (n : Nat) (b : List Txt), Res n b → cntL n b ≤ 1 + (b.map List.length).sum
 | 0, b, _ => by simp [cntL]
 | n + 1, b, h => by
  have key : ∀ l : List UInt8, (∀ c ∈ l, c ∈ letsL b) → (l.map fun c => cntL n (succL b c)).sum ≤ ((l.flatMap fun c => (succL b c).map (c :: ·)).map List.length).sum := by
   intro l
   induction l with
   | nil => intro _; simp
   | cons c l ih =>
    intro hl
    have h1 := ih fun x hx => hl x (List.mem_cons_of_mem _ hx)
    have h2 := cntL_le n (succL b c) (h.succ c)
    have h3 := (letsL_ne h).1 (hl c List.mem_cons_self)
    have h4 : (((succL b c).map (c :: ·)).map List.length).sum = ((succL b c).map List.length).sum + (succL b c).length := by
     rw [List.map_map]
     induction succL b c with
     | nil => rfl
     | cons x r ih => simp only [List.map_cons, List.sum_cons, List.length_cons, ih, Function.comp]; omega
    have h5 := List.length_pos_iff.2 h3
    rw [List.map_cons, List.sum_cons, List.flatMap_cons, List.map_append, List.sum_append, h4]
    omega
  have h1 := key (letsL b) fun _ hc => hc
  have h2 := congrArg (fun l : List Txt => (l.map List.length).sum) (decL h)
  simp only [List.map_append, List.sum_append] at h2
  rw [cntL, h2]
  omega
theorem sum_len_le : ∀ (ws : List Txt) (m : Nat), (∀ w ∈ ws, w.length ≤ m) → (ws.map List.length).sum ≤ ws.length * m
 | [], _, _ => by simp
 | w :: ws, m, h => by
  have h1 := sum_len_le ws m fun x hx => h x (List.mem_cons_of_mem _ hx)
  have h2 := h w List.mem_cons_self
  rw [List.map_cons, List.sum_cons, List.length_cons, Nat.succ_mul]
  omega
theorem cntL_ok {ws : List Txt} (h : OkW ws) (p : Txt) : cntL 12 (behL ws p) ≤ 481 := by
 have h1 := cntL_le 12 _ (Res.beh12 h p)
 have h2 := sum_len_le _ 12 (Res.beh12 h p).len
 have h3 : (behL ws p).length ≤ 40 := by
  unfold behL
  rw [List.length_map]
  exact Nat.le_trans (List.length_filter_le _ _) h.len
 have h4 : (behL ws p).length * 12 ≤ 40 * 12 := Nat.mul_le_mul_right _ h3
 omega
def firstL : List (List Txt) → List (List Txt) → List (List Txt)
 | acc, [] => acc
 | acc, x :: r => firstL (if x ∈ acc then acc else acc ++ [x]) r
theorem firstL_pre : ∀ (r acc : List (List Txt)), acc <+: firstL acc r
 | [], acc => List.prefix_refl _
 | x :: r, acc => by
  rw [firstL]
  refine List.IsPrefix.trans ?_ (firstL_pre r _)
  split
  ·
   exact List.prefix_refl _
  exact List.prefix_append _ _
theorem mem_firstL : ∀ (r acc : List (List Txt)) (y : List Txt), y ∈ firstL acc r ↔ y ∈ acc ∨ y ∈ r
 | [], acc, y => by simp [firstL]
 | x :: r, acc, y => by
  rw [firstL, mem_firstL r, List.mem_cons]
  by_cases h : x ∈ acc
  ·
   rw [if_pos h]
   constructor
   ·
    rintro (h1 | h1)
    ·
     exact .inl h1
    exact .inr (.inr h1)
   rintro (h1 | rfl | h1)
   ·
    exact .inl h1
   ·
    exact .inl h
   exact .inr h1
  rw [if_neg h, List.mem_append, List.mem_singleton]
  constructor
  ·
   rintro ((h1 | h1) | h1)
   ·
    exact .inl h1
   ·
    exact .inr (.inl h1)
   exact .inr (.inr h1)
  rintro (h1 | h1 | h1)
  ·
   exact .inl (.inl h1)
  ·
   exact .inl (.inr h1)
  exact .inr h1
theorem firstL_length : ∀ (r acc : List (List Txt)), (firstL acc r).length ≤ acc.length + r.length
 | [], acc => Nat.le_refl _
 | x :: r, acc => by
  rw [firstL]
  have := firstL_length r (if x ∈ acc then acc else acc ++ [x])
  refine Nat.le_trans this ?_
  split
  ·
   rw [List.length_cons]; omega
  rw [List.length_append, List.length_cons]; simp; omega
theorem firstL_nodup : ∀ (r acc : List (List Txt)), acc.Nodup → (firstL acc r).Nodup
 | [], _, h => h
 | x :: r, acc, h => by
  rw [firstL]
  refine firstL_nodup r _ ?_
  split
  ·
   exact h
  rename_i hx
  rw [List.nodup_append]
  exact ⟨h, by simp, fun a ha b hb e => hx (by rw [← List.mem_singleton.1 hb, ← e]; exact ha)⟩
theorem firstL_snoc (r acc : List (List Txt)) (x : List Txt) : firstL acc (r ++ [x]) = if x ∈ firstL acc r then firstL acc r else firstL acc r ++ [x] := by
 induction r generalizing acc with
 | nil => rfl
 | cons y r ih => rw [List.cons_append, firstL, firstL, ih]
theorem idx_pre {a b : List (List Txt)} (h : a <+: b) {x : List Txt} (hx : x ∈ a) : b.idxOf x = a.idxOf x := by
 obtain ⟨r, rfl⟩ := h
 rw [List.idxOf_append, if_pos hx]
theorem idx_new {a : List (List Txt)} {x : List Txt} (hx : x ∉ a) : (a ++ [x]).idxOf x = a.length := by
 rw [List.idxOf_append, if_neg hx]
 simp
def resL (ws : List Txt) : List (List Txt) := (preL ws).map (behL ws)
def dL (ws : List Txt) : List (List Txt) := firstL [] (resL ws)
def stL (D : List (List Txt)) (b : List Txt) : Bool × List (Int × Int) := (decide ([] ∈ b), (letsL b).map fun c => ((c.toNat : Int) - 97, (D.idxOf (succL b c) : Int)))
theorem resL_length (ws : List Txt) : (resL ws).length = (preL ws).length := List.length_map _
theorem dL_length {ws : List Txt} (h : OkW ws) : (dL ws).length ≤ 481 := by
 have h1 := firstL_length (resL ws) []
 rw [resL_length] at h1
 have h2 := h.pre
 unfold dL
 simp at h1
 omega
theorem mem_dL {ws : List Txt} {b : List Txt} : b ∈ dL ws ↔ ∃ p ∈ preL ws, behL ws p = b := by
 unfold dL
 rw [mem_firstL, resL, List.mem_map]
 simp
theorem dL_res {ws : List Txt} (h : OkW ws) {b : List Txt} (hb : b ∈ dL ws) : Res 12 b := by
 obtain ⟨p, _, rfl⟩ := mem_dL.1 hb
 exact Res.beh12 h p
theorem pre_snoc {ws : List Txt} {p : Txt} {c : UInt8} : p ++ [c] ∈ preL ws ↔ ∃ x, c :: x ∈ behL ws p := by
 rw [mem_preL]
 constructor
 ·
  rintro (h | ⟨w, hw, _, x, rfl⟩)
  ·
   simp at h
  exact ⟨x, mem_behL.2 (by simpa using hw)⟩
 rintro ⟨x, hx⟩
 exact .inr ⟨_, mem_behL.1 hx, by simp, ⟨x, by simp⟩⟩
theorem dL_succ {ws : List Txt} (h : OkW ws) {b : List Txt} (hb : b ∈ dL ws) {c : UInt8} (hc : c ∈ letsL b) : succL b c ∈ dL ws := by
 obtain ⟨p, hp, rfl⟩ := mem_dL.1 hb
 refine mem_dL.2 ⟨p ++ [c], pre_snoc.2 ((mem_letsL (Res.beh12 h p)).1 hc), behL_snoc h.asc p c⟩
theorem nil_preL (ws : List Txt) : [] ∈ preL ws := (clo_preL ws).1
theorem self_dL {ws : List Txt} (h : OkW ws) : ws ∈ dL ws := mem_dL.2 ⟨[], nil_preL ws, behL_nil ws h.asc⟩
theorem resL_zero {ws : List Txt} (h : OkW ws) : ∃ r, resL ws = ws :: r := by
 obtain ⟨h1, h2⟩ := clo_zero (asc_preL ws) (clo_preL ws)
 unfold resL
 cases hP : preL ws with
 | nil => rw [hP] at h1; simp at h1
 | cons p r =>
  rw [hP] at h2
  obtain rfl : p = [] := by simpa using h2
  exact ⟨r.map (behL ws), by rw [List.map_cons, behL_nil ws h.asc]⟩
theorem idx_zero {ws : List Txt} (h : OkW ws) : (dL ws).idxOf ws = 0 := by
 obtain ⟨r, hr⟩ := resL_zero h
 unfold dL
 rw [hr, firstL, if_neg (by simp)]
 rw [idx_pre (firstL_pre r _) (by simp)]
 simp
theorem kidsL_eq {ws : List Txt} (h : OkW ws) (p : Txt) : kidsL (preL ws) p = (letsL (behL ws p)).map fun c => p ++ [c] := by
 refine asc_ext _ _ ((asc_preL ws).filter _) ?_ fun q => ?_
 ·
  unfold Asc
  rw [List.pairwise_map]
  refine List.Pairwise.imp (fun hab => lt_appendL p ?_) (letsL_asc _)
  exact List.cons_lt_cons_iff.2 (.inl hab)
 unfold kidsL
 rw [List.mem_filter, decide_eq_true_eq, List.mem_map]
 constructor
 ·
  rintro ⟨hq, hne, rfl⟩
  have e := List.dropLast_concat_getLast hne
  refine ⟨q.getLast hne, (mem_letsL (Res.beh12 h _)).2 (pre_snoc.1 (by rw [e]; exact hq)), e⟩
 rintro ⟨c, hc, rfl⟩
 exact ⟨pre_snoc.2 ((mem_letsL (Res.beh12 h p)).1 hc), by simp, by simp⟩
def lastL : List (List Txt) → List Txt → Nat
 | [], _ => 0
 | _ :: r, b => if b ∈ r then lastL r b + 1 else 0
theorem lastL_spec : ∀ {l : List (List Txt)} {b : List Txt}, b ∈ l → lastL l b < l.length ∧ l.getD (lastL l b) [] = b ∧ ∀ j, lastL l b < j → j < l.length → l.getD j [] ≠ b
 | [], _, h => by simp at h
 | x :: r, b, h => by
  by_cases hb : b ∈ r
  ·
   obtain ⟨h1, h2, h3⟩ := lastL_spec hb
   simp only [lastL, if_pos hb]
   refine ⟨by rw [List.length_cons]; omega, by rw [List.getD_cons_succ]; exact h2, fun j hj hl => ?_⟩
   obtain ⟨j, rfl⟩ : ∃ m, j = m + 1 := ⟨j - 1, by omega⟩
   rw [List.getD_cons_succ]
   rw [List.length_cons] at hl
   exact h3 j (by omega) (by omega)
  simp only [lastL, if_neg hb]
  have hx : b = x := by
   rcases List.mem_cons.1 h with e | e
   ·
    exact e
   exact absurd e hb
  refine ⟨by simp, by rw [List.getD_cons_zero, hx], fun j hj hl => ?_⟩
  obtain ⟨j, rfl⟩ : ∃ m, j = m + 1 := ⟨j - 1, by omega⟩
  rw [List.getD_cons_succ]
  rw [List.length_cons] at hl
  intro e
  apply hb
  rw [← e, List.getD_eq_getElem?_getD, List.getElem?_eq_getElem (show j < r.length by omega)]
  exact List.getElem_mem _
theorem getR_mem {R : List (List Txt)} {i : Nat} (h : i < R.length) : R.getD i [] ∈ R := by rw [getD_lt [] h]; exact List.getElem_mem h
theorem lastL_ge {R : List (List Txt)} {i : Nat} (h : i < R.length) : i ≤ lastL R (R.getD i []) := by
 obtain ⟨h1, h2, h3⟩ := lastL_spec (getR_mem h)
 rcases Nat.lt_or_ge (lastL R (R.getD i [])) i with h4 | h4
 ·
  exact absurd rfl (h3 i h4 h)
 exact h4
theorem lastL_inj {R : List (List Txt)} {i j : Nat} (hi : i < R.length) (hj : j < R.length) : lastL R (R.getD i []) = lastL R (R.getD j []) ↔ R.getD i [] = R.getD j [] := by
 refine ⟨fun e => ?_, fun e => by rw [e]⟩
 rw [← (lastL_spec (getR_mem hi)).2.1, e, (lastL_spec (getR_mem hj)).2.1]
def joinT : List Txt → Txt
 | [] => []
 | w :: r => w ++ 44 :: joinT r
theorem split44 : ∀ (w v x y : Txt), (44 : UInt8) ∉ w → (44 : UInt8) ∉ v → w ++ 44 :: x = v ++ 44 :: y → w = v ∧ x = y
 | [], [], x, y, _, _, h => ⟨rfl, by simpa using h⟩
 | [], b :: v, x, y, _, hv, h => by
  rw [List.nil_append, List.cons_append] at h
  injection h with h1 h2
  exact absurd (h1 ▸ List.mem_cons_self) hv
 | a :: w, [], x, y, hw, _, h => by
  rw [List.nil_append, List.cons_append] at h
  injection h with h1 h2
  exact absurd (h1 ▸ List.mem_cons_self) hw
 | a :: w, b :: v, x, y, hw, hv, h => by
  rw [List.cons_append, List.cons_append] at h
  injection h with h1 h2
  obtain ⟨h3, h4⟩ := split44 w v x y (fun m => hw (List.mem_cons_of_mem _ m)) (fun m => hv (List.mem_cons_of_mem _ m)) h2
  exact ⟨by rw [h1, h3], h4⟩
theorem joinT_inj : ∀ (a b : List Txt), (∀ w ∈ a, (44 : UInt8) ∉ w) → (∀ w ∈ b, (44 : UInt8) ∉ w) → joinT a = joinT b → a = b
 | [], [], _, _, _ => rfl
 | [], w :: r, _, _, h => by simp [joinT] at h
 | w :: r, [], _, _, h => by simp [joinT] at h
 | w :: r, v :: s, ha, hb, h => by
  obtain ⟨h1, h2⟩ := split44 w v _ _ (ha w List.mem_cons_self) (hb v List.mem_cons_self) h
  rw [h1, joinT_inj r s (fun x hx => ha x (List.mem_cons_of_mem _ hx)) (fun x hx => hb x (List.mem_cons_of_mem _ hx)) h2]
theorem joinT_length : ∀ (a : List Txt) (m : Nat), (∀ w ∈ a, w.length ≤ m) → (joinT a).length ≤ a.length * (m + 1)
 | [], _, _ => by simp [joinT]
 | w :: r, m, h => by
  have h1 := joinT_length r m fun x hx => h x (List.mem_cons_of_mem _ hx)
  have h2 := h w List.mem_cons_self
  rw [joinT, List.length_append, List.length_cons, List.length_cons, Nat.succ_mul]
  omega
theorem no44 {n : Nat} {b : List Txt} (h : Res n b) : ∀ w ∈ b, (44 : UInt8) ∉ w := fun w hw hm => by
 have := letter_bd (h.let_ w hw 44 hm)
 simp at this
theorem joinT_res {n m : Nat} {a b : List Txt} (ha : Res n a) (hb : Res m b) : joinT a = joinT b ↔ a = b := ⟨joinT_inj a b (no44 ha) (no44 hb), fun e => by rw [e]⟩
end Go.Proofs.YtnnkedeohfbkeaaGreatDoor.M
namespace Go.Proofs.YtnnkedeohfbkeaaGreatDoor.M
open Go.RowKit Go.Proofs.YtnnkedeohfbkeaaGreatDoorW.PrintWords
theorem rdB (l : List Txt) (n : Nat) (h : n < l.length) : rdOf ByteArray.empty (l.map B) (n : Int) = B (l.getD n []) := by
 simp [rdOf, List.getD_eq_getElem?_getD, h]
theorem exBs (l : List ByteArray) : ∃ m : List Txt, l = m.map B := ⟨l.map fun x => x.data.toList, by rw [List.map_map]; exact ((List.map_congr_left (fun x _ => B_data x)).trans (List.map_id _)).symm⟩
end Go.Proofs.YtnnkedeohfbkeaaGreatDoor.M
namespace Go.Proofs.YtnnkedeohfbkeaaGreatDoor.M
open Go.Lib
theorem keeps_iff (d : Array Txt) (j : Nat) : keeps d j = true ↔ (j = 0 ∨ d[j]! ≠ d[j - 1]!) := by simp [keeps]
theorem mem_compact (zs : List Txt) (y : Txt) : y ∈ compact zs ↔ y ∈ zs := by
 unfold compact compactUpTo
 simp only [List.mem_map, List.mem_filter, List.mem_range]
 constructor
 ·
  rintro ⟨j, ⟨hj, _⟩, rfl⟩
  rw [getElem!_pos zs.toArray j (by simpa using hj)]
  simp
 intro hy
 have hex : ∃ n, ∃ h : n < zs.length, zs[n] = y := by
  obtain ⟨n, h, e⟩ := List.mem_iff_getElem.1 hy
  exact ⟨n, h, e⟩
 have key : ∀ n, (∃ h : n < zs.length, zs[n] = y) → ∃ m, m < zs.length ∧ keeps zs.toArray m = true ∧ zs.toArray[m]! = y := by
  intro n
  induction n with
  | zero => rintro ⟨h, e⟩; exact ⟨0, h, (keeps_iff _ _).2 (.inl rfl), by rw [getElem!_pos zs.toArray 0 (by simpa using h)]; simpa using e⟩
  | succ n ih =>
   rintro ⟨h, e⟩
   have e1 : zs.toArray[n + 1]! = y := by rw [getElem!_pos zs.toArray (n + 1) (by simpa using h)]; simpa using e
   by_cases hk : keeps zs.toArray (n + 1) = true
   ·
    exact ⟨n + 1, h, hk, e1⟩
   have : zs.toArray[n + 1]! = zs.toArray[n]! := by
    by_cases h9 : zs.toArray[n + 1]! = zs.toArray[n]!
    ·
     exact h9
    exact absurd ((keeps_iff _ _).2 (.inr h9)) hk
   refine ih ⟨by omega, ?_⟩
   have h2 : zs.toArray[n]! = zs[n] := by rw [getElem!_pos zs.toArray n (by simp; omega)]; simp
   rw [← h2, ← this, e1]
 obtain ⟨n, h⟩ := hex
 obtain ⟨m, h1, h2, h3⟩ := key n h
 exact ⟨m, ⟨h1, h2⟩, h3⟩
theorem pair_get {zs : List Txt} (h : zs.Pairwise (fun a b => decide (a ≤ b) = true)) {i j : Nat} (hij : i < j) (hj : j < zs.length) : zs.toArray[i]! ≤ zs.toArray[j]! := by
 have := List.pairwise_iff_getElem.1 h i j (by omega) hj hij
 rw [getElem!_pos zs.toArray i (by simp; omega), getElem!_pos zs.toArray j (by simpa using hj)]
 simpa using this
theorem asc_compact {zs : List Txt} (h : zs.Pairwise (fun a b => decide (a ≤ b) = true)) : Asc (compact zs) := by
 unfold Asc compact compactUpTo
 rw [List.pairwise_map]
 have h1 : ((List.range zs.length).filter (keeps zs.toArray)).Pairwise (· < ·) := List.Pairwise.filter _ List.pairwise_lt_range
 refine List.Pairwise.imp_of_mem ?_ h1
 intro a b ha hb hab
 rw [List.mem_filter, List.mem_range] at ha hb
 have hk := (keeps_iff _ _).1 hb.2
 have hne : zs.toArray[b]! ≠ zs.toArray[b - 1]! := by
  rcases hk with h0 | h0
  ·
   omega
  exact h0
 have h2 : zs.toArray[b - 1]! ≤ zs.toArray[b]! := pair_get h (by omega) hb.1
 have h3 : zs.toArray[a]! ≤ zs.toArray[b - 1]! := by
  by_cases e : a = b - 1
  ·
   subst e; exact List.le_refl _
  exact pair_get h (by omega) (by omega)
 have h4 : zs.toArray[b - 1]! < zs.toArray[b]! := by
  by_cases hlt : zs.toArray[b - 1]! < zs.toArray[b]!
  ·
   exact hlt
  exact absurd (List.le_antisymm (List.not_lt.1 hlt) h2) hne
 exact List.lt_of_le_of_lt h3 h4
theorem sorted_compact (l : List Txt) : compact (l.mergeSort fun x y => decide (x ≤ y)) = setL l := by
 have hp : (l.mergeSort fun x y => decide (x ≤ y)).Pairwise (fun a b => decide (a ≤ b) = true) := by
  refine List.pairwise_mergeSort ?_ ?_ l
  ·
   intro a b c h1 h2
   simp only [decide_eq_true_eq] at h1 h2 ⊢
   exact List.le_trans h1 h2
  intro a b
  simp only [Bool.or_eq_true, decide_eq_true_eq]
  exact List.le_total a b
 refine asc_ext _ _ (asc_compact hp) (asc_setL l) fun y => ?_
 rw [mem_compact, List.mem_mergeSort, mem_setL]
end Go.Proofs.YtnnkedeohfbkeaaGreatDoor.M
namespace Go.Proofs.YtnnkedeohfbkeaaGreatDoor.L
open Go.RowKit Go.Proofs.YtnnkedeohfbkeaaGreatDoor.P Go.Proofs.YtnnkedeohfbkeaaGreatDoor.M Go.Proofs.YtnnkedeohfbkeaaGreatDoorW.PrintWords Go.Proofs.YtnnkedeohfbkeaaGreatDoorW.PrintLast Go.Proofs.YtnnkedeohfbkeaaGreatDoorW.PrintMore
theorem map_data (l : List Txt) : (l.map B).map (fun x => x.data.toList) = l := by
 rw [List.map_map]
 exact (List.map_congr_left (fun x _ => data_B x)).trans (List.map_id _)
theorem l2Put_eq (l : List Txt) (w : Txt) (h : l.length ≤ 4294967296) (h2 : ∀ x ∈ l, x.length ≤ 4611686018427387900) : spec_l2Put.f (l.map B) (B w) = some ((putL l w).map B) := by
 have hall : ((l.map B).all fun x => decide (x.size ≤ 4611686018427387900)) = true := List.all_eq_true.2 fun x hx => by
  obtain ⟨y, hy, rfl⟩ := List.mem_map.1 hx
  simpa using h2 y hy
 unfold spec_l2Put.f
 rw [map_data, data_B, if_pos ⟨by simpa using h, hall⟩]
theorem set_eq (l : List Txt) (h : l.length ≤ 4294967296) : impl_set.f (l.map B) = some ((setL l).map B) := by
 unfold impl_set.f
 rw [if_pos (by simpa using h), map_data, sorted_compact]
 rfl
theorem l1In_eq (a b c : Int) : spec_l1In.f a b c = some (decide (b ≤ a ∧ a ≤ c)) := by
 unfold spec_l1In.f
 by_cases h : b ≤ a
 ·
  rw [if_pos (by omega)]; simp [h]
 rw [if_neg (by omega)]; simp [h]
instance : DecidableEq S96 := fun a b => if h : a.f0 = b.f0 ∧ a.f1 = b.f1 ∧ a.f2 = b.f2 then isTrue (by obtain ⟨a0, a1, a2⟩ := a; obtain ⟨b0, b1, b2⟩ := b; obtain ⟨h1, h2, h3⟩ := h; simp only at h1 h2 h3; subst h1 h2 h3; rfl) else isFalse (fun e => h (by rw [e]; exact ⟨rfl, rfl, rfl⟩))
def mkN (x : Int × Int × Bool) : S96 := ⟨x.1, x.2.1, x.2.2⟩
def trN (P ws : List Txt) : List S96 := (nodesL P ws).map mkN
theorem trN_length (P ws : List Txt) : (trN P ws).length = P.length := by simp [trN, nodesL]
theorem rdN (P ws : List Txt) (i : Nat) (h : i < P.length) : rd_T96 (trN P ws) (i : Int) = mkN (ndL P ws (P.getD i [])) := by
 unfold rd_T96 trN nodesL
 rw [Int.toNat_natCast, getD_lt _ (by simpa using h), getD_lt _ h]
 simp
theorem strOfNums_B (n : Int) : strOfNums [n] = B [UInt8.ofNat n.toNat] := rfl
theorem l2Word_loop (l : Txt) (hl : l.length ≤ 4611686018427387903) : ∀ (d n : Nat), n + d = l.length → Ev (fun k => spec_l2Word.l0 k (B l) (n : Int)) ((l.drop n).all letterB && decide (l.length ≤ 12)) := by
 have last : ∀ n : Nat, Ev (fun k => spec_l2Word.j1 k (B l) (n : Int) false) (decide (l.length ≤ 12)) := by
  intro n
  refine Ev.step (fun k => spec_l2Word.j1.eq_2 ..) (Ev.ifF (by simp) ?_)
  have : decide (((B l).size : Int) ≤ 12) = decide (l.length ≤ 12) := by simp; omega
  rw [this]; exact Ev.now _
 intro d
 induction d with
 | zero =>
  intro n hn
  refine Ev.step (fun k => spec_l2Word.l0.eq_2 ..) (Ev.ifF (by simp; omega) ?_)
  rw [List.drop_of_length_le (by omega)]; simpa using last n
 | succ d ih =>
  intro n hn
  have h1 : n < l.length := by omega
  refine Ev.step (fun k => spec_l2Word.l0.eq_2 ..) (Ev.ifT (by simp; omega) ?_)
  rw [drop_cons_getD 0 h1]
  by_cases h16 : n ≤ 12
  ·
   rw [show decide ((n : Int) ≤ 12) = true from by simp; omega]
   refine Ev.step (fun k => spec_l2Word.j1.eq_2 ..) (Ev.ifT rfl (Ev.ifT (by omega) (Ev.ifT (by simp; omega) ?_)))
   simp only [bt_B l n h1]
   by_cases ha : ((l.getD n 0).toNat : Int) < 97
   ·
    refine Ev.ifT ha ?_
    have : letterB (l.getD n 0) = false := by simp only [letterB, decide_eq_false_iff_not]; omega
    simpa only [List.all_cons, this, Bool.false_and] using Ev.now false
   refine Ev.ifF ha ?_
   by_cases hz : ((l.getD n 0).toNat : Int) > 122
   ·
    refine Ev.ifT hz ?_
    have : letterB (l.getD n 0) = false := by simp only [letterB, decide_eq_false_iff_not]; omega
    simpa only [List.all_cons, this, Bool.false_and] using Ev.now false
   refine Ev.ifF hz ?_
   have : letterB (l.getD n 0) = true := by simp only [letterB, decide_eq_true_eq]; omega
   simpa only [wrap64_succ n (by omega), List.all_cons, this, Bool.true_and] using ih (n + 1) (by omega)
  rw [show decide ((n : Int) ≤ 12) = false from by simp; omega]
  have : ((l.getD n 0 :: l.drop (n + 1)).all letterB && decide (l.length ≤ 12)) = decide (l.length ≤ 12) := by
   have : decide (l.length ≤ 12) = false := by simp; omega
   rw [this]; simp
  rw [this]; exact last n
theorem l2Word_ev (l : Txt) (hl : l.length ≤ 4611686018427387903) : Ev (fun k => spec_l2Word.f k (B l)) (wordL l) := by
 simpa [spec_l2Word.f, wordL] using l2Word_loop l hl l.length 0 (by omega)
def setR : List Txt → List Txt → List ByteArray × Bool
 | [], acc => (acc.map B, decide (acc.length ≤ 40))
 | w :: r, acc => if wordL w = true then setR r (putL acc w) else ([], false)
theorem setR_eq : ∀ (l acc : List Txt), setR l acc = if l.all wordL = true then ((l.foldl putL acc).map B, decide ((l.foldl putL acc).length ≤ 40)) else ([], false)
 | [], acc => rfl
 | w :: r, acc => by
  unfold setR
  rw [setR_eq r (putL acc w), List.all_cons, List.foldl_cons]
  cases h : wordL w with
  | false => rw [if_neg Bool.false_ne_true, if_neg (by rw [Bool.false_and]; exact Bool.false_ne_true)]
  | true => rw [if_pos rfl, Bool.true_and]
theorem l2Set_loop {b : Nat} (hb : b ≤ 1000000) (ws : List Txt) (hl : ws.length ≤ 2147483648) (hw : ∀ w ∈ ws, w.length ≤ b) : ∀ (d i : Nat) (acc : List Txt), i + d = ws.length → acc.length ≤ i → (∀ w ∈ acc, w.length ≤ b) →
  Ev (fun k => spec_l2Set.l0 k (ws.map B) (acc.map B) (i : Int)) (setR (ws.drop i) acc) := by
 intro d
 induction d with
 | zero =>
  intro i acc h1 h2 h3
  rw [List.drop_of_length_le (by omega)]
  refine Ev.step (fun k => spec_l2Set.l0.eq_2 ..) (Ev.ifF (by simp; omega) ?_)
  have : decide (((acc.map B).length : Int) ≤ 40) = decide (acc.length ≤ 40) := by
   rw [List.length_map]; exact decide_eq_decide.2 (by omega)
  rw [this]
  exact Ev.now _
 | succ d ih =>
  intro i acc h1 h2 h3
  have hi : i < ws.length := by omega
  have hm := getD_mem hi
  rw [drop_cons_getD [] hi]
  refine Ev.step (fun k => spec_l2Set.l0.eq_2 ..) (Ev.ifT (by simp; omega) (Ev.ifT (by omega) ?_))
  rw [rdB ws i hi]
  refine Ev.bind (f := fun k t => if t = true then (spec_l2Put.f (acc.map B) (B (ws.getD i []))).bind fun t165 => spec_l2Set.l0 k (ws.map B) t165 (wrap64 ((i : Int) + 1)) else some ([], false)) (l2Word_ev _ (by have := hw _ hm; omega)) ?_
  unfold setR
  cases hq : wordL (ws.getD i []) with
  | false =>
   rw [if_neg Bool.false_ne_true]
   exact Ev.ifF Bool.false_ne_true (Ev.now _)
  | true =>
   rw [if_pos (show true = true from rfl)]
   refine Ev.ifT rfl ?_
   rw [l2Put_eq acc _ (by omega) (fun x hx => by have := h3 x hx; omega)]
   refine Ev.some_bind ?_
   have h6 := putL_length_le acc (ws.getD i [])
   have := ih (i + 1) (putL acc (ws.getD i [])) (by omega) (by omega) (fun x hx => by
    rcases (mem_putL _ _ _).1 hx with rfl | hx
    ·
     exact hw _ hm
    exact h3 x hx)
   rw [wrap64_succ i (by omega)]
   exact this
theorem l2Set_ev {b : Nat} (ws : List Txt) (hl : ws.length ≤ 2147483648) (hw : ∀ w ∈ ws, w.length ≤ b) (hb : b ≤ 1000000 := by omega) : Ev (fun k => spec_l2Set.f k (ws.map B)) (if ws.all wordL = true then ((setL ws).map B, decide ((setL ws).length ≤ 40)) else ([], false)) := by
 have := l2Set_loop hb ws hl hw ws.length 0 [] (by omega) (by simp) (by simp)
 rw [List.drop_zero, setR_eq] at this
 exact this
theorem l2Has_loop (l : List Txt) (p : Txt) (hl : l.length ≤ 4611686018427387903) : ∀ (d i : Nat), i + d = l.length → Ev (fun k => spec_l2Has.l0 k (l.map B) (B p) (i : Int)) (decide (p ∈ l.drop i)) := by
 intro d
 induction d with
 | zero =>
  intro i h
  rw [List.drop_of_length_le (by omega)]
  exact Ev.step (fun k => spec_l2Has.l0.eq_2 ..) (Ev.ifF (by simp; omega) (by simpa using Ev.now false))
 | succ d ih =>
  intro i h
  have hi : i < l.length := by omega
  refine Ev.step (fun k => spec_l2Has.l0.eq_2 ..) (Ev.ifT (by simp; omega) (Ev.ifT (by omega) ?_))
  rw [rdB l i hi, drop_cons_getD [] hi, toList_B, toList_B]
  by_cases e : l.getD i [] = p
  ·
   rw [show decide (p ∈ l.getD i [] :: l.drop (i + 1)) = true from decide_eq_true (by rw [e]; exact List.mem_cons_self)]
   exact Ev.ifT e (Ev.now _)
  rw [show decide (p ∈ l.getD i [] :: l.drop (i + 1)) = decide (p ∈ l.drop (i + 1)) from decide_eq_decide.2 ⟨fun h => (List.mem_cons.1 h).resolve_left (fun q => e q.symm), fun h => List.mem_cons_of_mem _ h⟩]
  refine Ev.ifF e ?_
  rw [wrap64_succ i (by omega)]
  exact ih (i + 1) (by omega)
theorem l2Has_ev (l : List Txt) (p : Txt) (hl : l.length ≤ 4611686018427387903) : Ev (fun k => spec_l2Has.f k (l.map B) (B p)) (decide (p ∈ l)) := by
 have := l2Has_loop l p hl l.length 0 (by omega)
 rw [List.drop_zero] at this
 exact this
theorem l2Place_loop (l : List Txt) (p : Txt) (hl : l.length ≤ 4611686018427387903) : ∀ (d i : Nat), i + d = l.length → Ev (fun k => spec_l2Place.l0 k (l.map B) (B p) (i : Int)) (if p ∈ l.drop i then ((i + placeL (l.drop i) p : Nat) : Int) else -1) := by
 intro d
 induction d with
 | zero =>
  intro i h
  rw [List.drop_of_length_le (by omega)]
  exact Ev.step (fun k => spec_l2Place.l0.eq_2 ..) (Ev.ifF (by simp; omega) (by simpa using Ev.now (-1 : Int)))
 | succ d ih =>
  intro i h
  have hi : i < l.length := by omega
  refine Ev.step (fun k => spec_l2Place.l0.eq_2 ..) (Ev.ifT (by simp; omega) (Ev.ifT (by omega) ?_))
  rw [rdB l i hi, drop_cons_getD [] hi, toList_B, toList_B]
  by_cases e : l.getD i [] = p
  ·
   rw [if_pos (show p ∈ l.getD i [] :: l.drop (i + 1) from by rw [e]; exact List.mem_cons_self), placeL, if_pos e]
   exact Ev.ifT e (Ev.now _)
  refine Ev.ifF e ?_
  rw [wrap64_succ i (by omega)]
  have h1 := ih (i + 1) (by omega)
  by_cases hm : p ∈ l.drop (i + 1)
  ·
   rw [if_pos hm] at h1
   rw [if_pos (List.mem_cons_of_mem _ hm), placeL, if_neg e]
   rwa [show i + (placeL (l.drop (i + 1)) p + 1) = i + 1 + placeL (l.drop (i + 1)) p from by omega]
  rw [if_neg hm] at h1
  rw [if_neg (fun h => hm ((List.mem_cons.1 h).resolve_left (fun q => e q.symm)))]
  exact h1
theorem l2Place_ev (l : List Txt) (p : Txt) (hl : l.length ≤ 4611686018427387903) (h : p ∈ l) : Ev (fun k => spec_l2Place.f k (l.map B) (B p)) (placeL l p : Int) := by
 have := l2Place_loop l p hl l.length 0 (by omega)
 rw [List.drop_zero, if_pos h, Nat.zero_add] at this
 exact this
def begF (w : Txt) : Nat → Nat → List Txt
 | _, 0 => []
 | n, d + 1 => w.take n :: begF w (n + 1) d
theorem begF_eq (w : Txt) : ∀ d n, begF w n d = (List.range d).map fun j => w.take (n + j)
 | 0, _ => rfl
 | d + 1, n => by
  rw [begF, begF_eq w d (n + 1), List.range_succ_eq_map, List.map_cons, List.map_map]
  congr 1
  exact List.map_congr_left fun j _ => by show w.take (n + 1 + j) = w.take (n + (j + 1)); congr 1; omega
theorem begs_begF (w : Txt) : begs w = begF w 1 w.length := by
 rw [begF_eq]
 exact List.map_congr_left fun j _ => by congr 1; omega
theorem l2Of_in (ws : List Txt) (hl : ws.length ≤ 40) (hw : ∀ w ∈ ws, w.length ≤ 12) (i : Nat) (hi : i < ws.length) (r : List S96) (acc2 : List Txt) (hr : Ev (fun k => spec_l2Of.l0 k (ws.map B) (acc2.map B) ((i + 1 : Nat) : Int)) r) :
  ∀ (d n : Nat) (acc : List Txt), 0 < n → n + d = (ws.getD i []).length + 1 → (begF (ws.getD i []) n d).foldl putL acc = acc2 → acc.length + d ≤ 1000 → (∀ x ∈ acc, x.length ≤ 12) → Ev (fun k => spec_l2Of.l1 k (ws.map B) (acc.map B) (i : Int) (n : Int)) r := by
 have hwi := hw _ (getD_mem hi)
 intro d
 induction d with
 | zero =>
  intro n acc h0 h1 h2 h3 h4
  rw [begF, List.foldl_nil] at h2
  subst h2
  refine Ev.step (fun k => spec_l2Of.l1.eq_2 ..) (Ev.ifT (by omega) (Ev.ifT (by simp; omega) (Ev.ifF (by rw [rdB ws i hi, size_B]; omega) ?_)))
  rw [wrap64_succ i (by omega)]
  exact hr
 | succ d ih =>
  intro n acc h0 h1 h2 h3 h4
  refine Ev.step (fun k => spec_l2Of.l1.eq_2 ..) (Ev.ifT (by omega) (Ev.ifT (by simp; omega) (Ev.ifT (by rw [rdB ws i hi, size_B]; omega) (Ev.ifT (by omega) ?_))))
  rw [rdB ws i hi, extract_B, List.drop_zero, Int.toNat_natCast, Nat.sub_zero, l2Put_eq acc _ (by omega) (fun x hx => by have := h4 x hx; omega)]
  refine Ev.some_bind ?_
  rw [wrap64_succ n (by omega)]
  have h6 := putL_length_le acc ((ws.getD i []).take n)
  exact ih (n + 1) (putL acc ((ws.getD i []).take n)) (by omega) (by omega) (by rw [← h2]; rfl) (by omega) (fun x hx => by
   rcases (mem_putL _ _ _).1 hx with rfl | hx
   ·
    rw [List.length_take]; omega
   exact h4 x hx)
theorem l2Of_out (ws : List Txt) (hl : ws.length ≤ 40) (hw : ∀ w ∈ ws, w.length ≤ 12) (r : List S96) (all : List Txt) (hr : Ev (fun k => spec_l2Of.l2 k (ws.map B) (all.map B) 0 []) r) :
  ∀ (d i : Nat) (acc : List Txt), i + d = ws.length → ((ws.drop i).flatMap begs).foldl putL acc = all → acc.length + 12 * d ≤ 600 → (∀ x ∈ acc, x.length ≤ 12) → Ev (fun k => spec_l2Of.l0 k (ws.map B) (acc.map B) (i : Int)) r := by
 intro d
 induction d with
 | zero =>
  intro i acc h1 h2 h3 h4
  rw [List.drop_of_length_le (by omega), List.flatMap_nil, List.foldl_nil] at h2
  subst h2
  exact Ev.step (fun k => spec_l2Of.l0.eq_2 ..) (Ev.ifF (by simp; omega) hr)
 | succ d ih =>
  intro i acc h1 h2 h3 h4
  have hi : i < ws.length := by omega
  have hwi := hw _ (getD_mem hi)
  rw [drop_cons_getD [] hi, List.flatMap_cons, List.foldl_append] at h2
  have h5 := foldl_putL_len (begs (ws.getD i [])) acc
  rw [begs_length] at h5
  have hn := ih (i + 1) _ (by omega) h2 (by omega) (fun x hx => by
   rcases (foldl_putL_mem _ _ _).1 hx with hx | hx
   ·
    exact Nat.le_trans (mem_begs.1 hx).2.length_le hwi
   exact h4 x hx)
  refine Ev.step (fun k => spec_l2Of.l0.eq_2 ..) (Ev.ifT (by simp; omega) ?_)
  exact l2Of_in ws hl hw i hi r _ hn (ws.getD i []).length 1 acc (by omega) (by omega) (by rw [← begs_begF]) (by omega) h4
theorem l2Of_nodes {ws P : List Txt} (hA : Asc P) (hC : Clo P) (hW : ∀ p ∈ P, wordL p = true) (hP : P.length ≤ 1000) (hl : ws.length ≤ 1000) : ∀ (d i : Nat) (acc : List S96), i + d = P.length → acc.length ≤ i →
  Ev (fun k => spec_l2Of.l2 k (ws.map B) (P.map B) (i : Int) acc) (acc ++ ((P.drop i).map fun p => mkN (ndL P ws p))) := by
 intro d
 induction d with
 | zero =>
  intro i acc h1 h2
  rw [List.drop_of_length_le (by omega), List.map_nil, List.append_nil]
  exact Ev.step (fun k => spec_l2Of.l2.eq_2 ..) (Ev.ifF (by simp; omega) (Ev.now _))
 | succ d ih =>
  intro i acc h1 h2
  have hi : i < P.length := by omega
  have hm := getD_mem hi
  rw [drop_cons_getD [] hi, List.map_cons]
  refine Ev.step (fun k => spec_l2Of.l2.eq_2 ..) (Ev.ifT (by simp; omega) (Ev.ifT (by omega) ?_))
  rw [rdB P i hi]
  refine Ev.bind (l2Has_ev ws (P.getD i []) (by omega)) ?_
  have hcons : ∀ x : S96, acc ++ (x :: (P.drop (i + 1)).map fun p => mkN (ndL P ws p)) = (acc ++ [x]) ++ (P.drop (i + 1)).map fun p => mkN (ndL P ws p) := fun x => by simp
  rw [hcons]
  by_cases h0 : i = 0
  ·
   have hp : P.getD i [] = [] := by rw [h0]; exact (clo_zero hA hC).2
   refine Ev.ifF (by omega) (Ev.ifT (by omega) ?_)
   have hx : mkN (ndL P ws (P.getD i [])) = ⟨-1, -1, decide (P.getD i [] ∈ ws)⟩ := by unfold mkN ndL; rw [if_pos hp, if_pos hp]
   rw [hx, wrap64_succ i (by omega)]
   exact ih (i + 1) _ (by omega) (by simp; omega)
  have hne := clo_pos hA hC hi (by omega)
  have hlen := List.length_pos_iff.2 hne
  have h12 := (wordL_iff.1 (hW _ hm)).2
  have hw1 : wrap64 (((B (P.getD i [])).size : Int) - 1) = ((P.getD i []).length - 1 : Nat) := by rw [size_B, wrap64_id (by omega) (by omega)]; omega
  rw [hw1]
  refine Ev.ifT (by omega) (Ev.ifT (by omega) (Ev.ifT (by rw [size_B]; omega) (Ev.ifT (by rw [size_B]; omega) ?_)))
  rw [extract_B, List.drop_zero, Int.toNat_natCast, Nat.sub_zero, ← List.dropLast_eq_take]
  refine Ev.bind (l2Place_ev P _ (by omega) (hC.2 _ hm hne)) (Ev.ifT (by omega) ?_)
  have hx : mkN (ndL P ws (P.getD i [])) = ⟨((bt (B (P.getD i [])) (((P.getD i []).length - 1 : Nat) : Int)) - 97) % 256, (placeL P (P.getD i []).dropLast : Int), decide (P.getD i [] ∈ ws)⟩ := by
   unfold mkN ndL
   rw [if_neg hne, if_neg hne, bt_B _ _ (by omega)]
   rfl
  rw [hx, wrap64_succ i (by omega)]
  exact ih (i + 1) _ (by omega) (by simp; omega)
theorem l2Of_ev {ws : List Txt} (h : OkW ws) : Ev (fun k => spec_l2Of.f k (ws.map B)) (trN (preL ws) ws) := by
 have h1 := h.pre
 have h2 := h.len
 have hn := l2Of_nodes (ws := ws) (asc_preL ws) (clo_preL ws) (fun p hp => preL_word h.word hp) (by omega) (by omega) (preL ws).length 0 [] (by omega) (by simp)
 rw [List.drop_zero, List.nil_append] at hn
 have e : (preL ws).map (fun p => mkN (ndL (preL ws) ws p)) = trN (preL ws) ws := by unfold trN nodesL; rw [List.map_map]; rfl
 rw [e] at hn
 exact l2Of_out ws h.len h.le _ (preL ws) hn ws.length 0 [[]] (by omega) rfl (by simp; omega) (by simp)
theorem rd_get (N : List S96) (i : Nat) (h : i < N.length) : rd_T96 N (i : Int) = N[i] := by
 unfold rd_T96
 rw [Int.toNat_natCast, getD_lt _ h]
theorem okW_setL {ws : List Txt} (h : ws.all wordL = true) (hl : (setL ws).length ≤ 40) : OkW (setL ws) := ⟨asc_setL ws, hl, fun w hw => List.all_eq_true.1 h w ((mem_setL ws w).1 hw)⟩
def IsTr (N : List S96) : Prop := ∃ ws, OkW ws ∧ N = trN (preL ws) ws
theorem IsTr.len {N : List S96} (h : IsTr N) : 1 ≤ N.length ∧ N.length ≤ 481 := by
 obtain ⟨ws, h, rfl⟩ := h
 rw [trN_length]
 exact ⟨(clo_zero (asc_preL ws) (clo_preL ws)).1, h.pre⟩
theorem in_eq (a b c : Int) : impl_in.f a b c = some (decide (b ≤ a ∧ a ≤ c)) := by
 unfold impl_in.f
 by_cases h : b ≤ a
 ·
  rw [if_pos (by omega)]; simp [h]
 rw [if_neg (by omega)]; simp [h]
abbrev Nd := S96
theorem bytesLess_eq : ∀ (x y : Txt), Op.bytesLess x y = decide (x < y)
 | [], [] => by rw [decide_eq_false (txt_irrefl [])]; rfl
 | _ :: _, [] => by rw [decide_eq_false (List.not_lt_nil _)]; rfl
 | [], b :: y => by rw [decide_eq_true (List.nil_lt_cons b y)]; rfl
 | a :: x, b :: y => by
  rw [Op.bytesLess, bytesLess_eq x y, Bool.eq_iff_iff, decide_eq_true_eq, List.cons_lt_cons_iff]
  simp
theorem less_eq (x y : Txt) : cmp_Less_string.f (B x) (B y) = some (decide (x < y)) := by
 unfold cmp_Less_string.f cmp_isNaN_string.f
 rw [toList_B, toList_B, ← bytesLess_eq]
 simp
def Srt (ws : List Txt) : Prop := ∀ j, j + 1 < ws.length → ¬ ws.getD (j + 1) [] < ws.getD j []
theorem Srt.le {ws : List Txt} (h : Srt ws) (i : Nat) : ∀ d, i + d < ws.length → ¬ ws.getD (i + d) [] < ws.getD i []
 | 0, _ => txt_irrefl _
 | d + 1, hd => fun hlt => by
  have h1 := h.le i d (by omega)
  have h2 := h (i + d) (by omega)
  exact h1 (List.lt_of_le_of_lt (List.not_lt.1 h2) hlt)
theorem srt_asc {ws : List Txt} (h : Asc ws) : Srt ws := fun j hj => txt_asymm (asc_get h hj (Nat.lt_succ_self j))
theorem half_eq (i j : Nat) (h : i + j ≤ 4611686018427387903) : wrap64 ((IntKind.u64.wrap (wrap64 ((i : Int) + (j : Int)))) / 2) = (((i + j) / 2 : Nat) : Int) := by
 have e1 : wrap64 ((i : Int) + (j : Int)) = ((i + j : Nat) : Int) := by rw [wrap64_id (by omega) (by omega)]; omega
 have e2 : IntKind.u64.wrap (((i + j : Nat) : Int)) = ((i + j : Nat) : Int) := by
  simp [IntKind.wrap, IntKind.bits, IntKind.signed]; omega
 rw [e1, e2, wrap64_id (by omega) (by omega)]
 omega
theorem search_loop (ws : List Txt) (p : Txt) (hl : ws.length ≤ 1000000000) (hs : Srt ws) : ∀ (d i j : Nat), i + d = j → j ≤ ws.length → (∀ m, m < i → ws.getD m [] < p) → (∀ m, j ≤ m → m < ws.length → ¬ ws.getD m [] < p) →
  ∃ q : Nat, q ≤ ws.length ∧ (∀ m, m < q → ws.getD m [] < p) ∧ (∀ m, q ≤ m → m < ws.length → ¬ ws.getD m [] < p) ∧ Ev (fun k => slices_BinarySearch_string_string.l0 k (ws.map B) (B p) (ws.length : Int) (i : Int) (j : Int)) ((q : Int), decide (p ∈ ws)) := by
 intro d
 induction d using Nat.strongRecOn with
 | _ d ih =>
  intro i j h1 h2 h3 h4
  by_cases hij : i < j
  ·
   have hh : (i + j) / 2 < ws.length := by omega
   by_cases hlt : ws.getD ((i + j) / 2) [] < p
   ·
    obtain ⟨q, q1, q2, q3, q4⟩ := ih (j - ((i + j) / 2 + 1)) (by omega) ((i + j) / 2 + 1) j (by omega) h2 (fun m hm => by
     by_cases e : m = (i + j) / 2
     ·
      rw [e]; exact hlt
     by_cases hmi : m < i
     ·
      exact h3 m hmi
     have hle := hs.le m ((i + j) / 2 - m) (by omega)
     rw [show m + ((i + j) / 2 - m) = (i + j) / 2 from by omega] at hle
     exact List.lt_of_le_of_lt (List.not_lt.1 hle) hlt) h4
    refine ⟨q, q1, q2, q3, Ev.step (fun k => slices_BinarySearch_string_string.l0.eq_2 ..) (Ev.ifT (by omega) ?_)⟩
    rw [half_eq i j (by omega)]
    refine Ev.ifT (by omega) (Ev.ifT (by rw [List.length_map]; omega) ?_)
    rw [rdB ws _ hh, less_eq, decide_eq_true hlt]
    refine Ev.some_bind (Ev.ifT rfl ?_)
    rw [wrap64_succ _ (by omega)]
    exact q4
   obtain ⟨q, q1, q2, q3, q4⟩ := ih ((i + j) / 2 - i) (by omega) i ((i + j) / 2) (by omega) (by omega) h3 (fun m hm hml => by
    have hle := hs.le ((i + j) / 2) (m - (i + j) / 2) (by omega)
    rw [show (i + j) / 2 + (m - (i + j) / 2) = m from by omega] at hle
    exact fun hp => hlt (List.lt_of_le_of_lt (List.not_lt.1 hle) hp))
   refine ⟨q, q1, q2, q3, Ev.step (fun k => slices_BinarySearch_string_string.l0.eq_2 ..) (Ev.ifT (by omega) ?_)⟩
   rw [half_eq i j (by omega)]
   refine Ev.ifT (by omega) (Ev.ifT (by rw [List.length_map]; omega) ?_)
   rw [rdB ws _ hh, less_eq, decide_eq_false hlt]
   exact Ev.some_bind (Ev.ifF Bool.false_ne_true q4)
  obtain rfl : i = j := by omega
  refine ⟨i, h2, h3, h4, Ev.step (fun k => slices_BinarySearch_string_string.l0.eq_2 ..) (Ev.ifF (by omega) ?_)⟩
  by_cases hn : i < ws.length
  ·
   refine Ev.ifT (by omega) (Ev.ifT (by omega) (Ev.ifT (by rw [List.length_map]; omega) ?_))
   rw [rdB ws i hn, toList_B, toList_B]
   by_cases e : ws.getD i [] = p
   ·
    rw [decide_eq_true (show p ∈ ws from e ▸ getD_mem hn)]
    exact Ev.ifT e (Ev.now _)
   have hm : ¬ p ∈ ws := fun hp => by
    obtain ⟨z1, z2⟩ := placeL_mem hp
    have hz : i ≤ placeL ws p := by
     by_cases hzi : placeL ws p < i
     ·
      have := h3 _ hzi; rw [z2] at this; exact absurd this (txt_irrefl _)
     omega
    have hle := hs.le i (placeL ws p - i) (by omega)
    rw [show i + (placeL ws p - i) = placeL ws p from by omega, z2] at hle
    exact e (txt_tri (h4 i (Nat.le_refl _) hn) hle)
   rw [decide_eq_false hm]
   refine Ev.ifF e ?_
   unfold slices_isNaN_string.f
   exact Ev.some_bind (Ev.ifF (by simp) (Ev.now _))
  have hm : ¬ p ∈ ws := fun hp => by
   obtain ⟨z1, z2⟩ := placeL_mem hp
   have := h3 _ (show placeL ws p < i by omega)
   rw [z2] at this
   exact txt_irrefl _ this
  rw [decide_eq_false hm]
  exact Ev.ifF (by omega) (Ev.now _)
theorem search_ev (ws : List Txt) (p : Txt) (hl : ws.length ≤ 1000000000) (hs : Srt ws) : ∃ q : Nat, q ≤ ws.length ∧ (∀ m, m < q → ws.getD m [] < p) ∧ (∀ m, q ≤ m → m < ws.length → ¬ ws.getD m [] < p) ∧ Ev (fun k => slices_BinarySearch_string_string.f k (ws.map B) (B p)) ((q : Int), decide (p ∈ ws)) := by
 unfold slices_BinarySearch_string_string.f
 have := search_loop ws p hl hs ws.length 0 ws.length (by omega) (Nat.le_refl _) (fun m hm => absurd hm (Nat.not_lt_zero _)) (fun m h1 h2 => absurd h2 (by omega))
 rw [List.length_map]
 exact this
def prefGo : List Nd → List Txt → Option (List Txt)
 | [], acc => some acc
 | n :: r, acc => if 0 ≤ n.f1 ∧ n.f1 < (acc.length : Int) ∧ 0 ≤ n.f0 ∧ n.f0 ≤ 25 then prefGo r (acc ++ [acc.getD n.f1.toNat [] ++ [UInt8.ofNat (97 + n.f0.toNat)]]) else none
def prefR : Option (List Txt) → List ByteArray × Bool
 | some ps => (ps.map B, true)
 | none => ([], false)
theorem letter_eq (n : Int) (h0 : 0 ≤ n) (h1 : n ≤ 25) : impl_letter.f n = some (B [UInt8.ofNat (97 + n.toNat)]) := by
 unfold impl_letter.f
 rw [strOfNums_B]
 congr 3
 rw [wrap64_id (by omega) (by omega)]
 congr 1
 omega
theorem getD_le {acc : List Txt} {b : Nat} (h : ∀ p ∈ acc, p.length ≤ b) (n : Nat) : (acc.getD n []).length ≤ b := by
 by_cases hn : n < acc.length
 ·
  exact h _ (getD_mem hn)
 rw [List.getD_eq_getElem?_getD, List.getElem?_eq_none (by omega)]; simp
theorem pref_loop (N' : List Nd) (hN : N'.length ≤ 1000000) : ∀ (d i : Nat) (acc : List Txt), i + d = N'.length → acc.length = i + 1 → (∀ p ∈ acc, p.length ≤ i) →
  Ev (fun k => impl_Trie_prefixes.l0 k (acc.map B) N' (N'.length : Int) (i : Int)) (prefR (prefGo (N'.drop i) acc)) := by
 intro d
 induction d with
 | zero =>
  intro i acc h1 h2 h3
  rw [List.drop_of_length_le (by omega)]
  exact Ev.step (fun k => impl_Trie_prefixes.l0.eq_2 ..) (Ev.ifF (by omega) (Ev.now _))
 | succ d ih =>
  intro i acc h1 h2 h3
  have hi : i < N'.length := by omega
  rw [List.drop_eq_getElem_cons hi]
  refine Ev.step (fun k => impl_Trie_prefixes.l0.eq_2 ..) (Ev.ifT (by omega) (Ev.ifT (by omega) (Ev.ifT (by omega) ?_)))
  rw [rd_get N' i hi, in_eq]
  unfold prefGo
  by_cases ha : 0 ≤ N'[i].f1 ∧ N'[i].f1 ≤ (i : Int)
  rotate_left
  ·
   rw [decide_eq_false ha, if_neg (fun h => ha ⟨h.1, by omega⟩)]
   exact Ev.some_bind (Ev.ifF Bool.false_ne_true (Ev.now _))
  rw [decide_eq_true ha]
  refine Ev.some_bind (Ev.ifT rfl ?_)
  rw [in_eq]
  by_cases hb : 0 ≤ N'[i].f0 ∧ N'[i].f0 ≤ 25
  rotate_left
  ·
   rw [decide_eq_false hb, if_neg (fun h => hb h.2.2)]
   exact Ev.some_bind (Ev.ifF Bool.false_ne_true (Ev.now _))
  rw [decide_eq_true hb, if_pos ⟨ha.1, by omega, hb.1, hb.2⟩]
  refine Ev.some_bind (Ev.ifT rfl (Ev.ifT ha.1 (Ev.ifT (by rw [List.length_map]; omega) ?_)))
  rw [letter_eq _ hb.1 hb.2]
  refine Ev.some_bind ?_
  obtain ⟨m, hm⟩ : ∃ m : Nat, N'[i].f1 = (m : Int) := ⟨N'[i].f1.toNat, by omega⟩
  have hml : m < acc.length := by omega
  have hmb := getD_le h3 m
  rw [hm, rdB acc m hml, Int.toNat_natCast]
  refine Ev.ifT (by rw [size_B, size_B, List.length_singleton]; omega) (Ev.ifT (by rw [List.length_map]; omega) ?_)
  rw [append_B, wrap64_succ i (by omega)]
  have := ih (i + 1) (acc ++ [acc.getD m [] ++ [UInt8.ofNat (97 + N'[i].f0.toNat)]]) (by omega) (by simp; omega) (fun p hp => by
   rcases List.mem_append.1 hp with hp | hp
   ·
    have := h3 p hp; omega
   rw [List.mem_singleton.1 hp]; simp; simpa using hmb)
  rw [List.map_append, List.map_singleton] at this
  exact this
def prefN (N : List Nd) : Option (List Txt) := if 1 ≤ N.length ∧ N.length ≤ 481 then prefGo (N.drop 1) [[]] else none
theorem prefixes_ev (N : List Nd) : Ev (fun k => impl_Trie_prefixes.f k N) (prefR (prefN N)) := by
 unfold impl_Trie_prefixes.f prefN
 simp only [in_eq]
 by_cases h : 1 ≤ N.length ∧ N.length ≤ 481
 ·
  rw [if_pos h, decide_eq_true (show (1 : Int) ≤ (N.length : Int) ∧ (N.length : Int) ≤ 481 by omega)]
  refine Ev.some_bind (Ev.ifT rfl (Ev.ifT (by omega) (Ev.some_bind ?_)))
  exact pref_loop (N.drop 1) (by rw [List.length_drop]; omega) (N.drop 1).length 0 [[]] (by omega) rfl (by simp)
 rw [if_neg h, decide_eq_false (show ¬ ((1 : Int) ≤ (N.length : Int) ∧ (N.length : Int) ≤ 481) by omega)]
 exact Ev.some_bind (Ev.ifF Bool.false_ne_true (Ev.now _))
theorem letterB_of (m : Nat) (h : m ≤ 25) : letterB (UInt8.ofNat (97 + m)) = true := by
 have : (UInt8.ofNat (97 + m)).toNat = 97 + m := by simp; omega
 simp only [letterB, this, decide_eq_true_eq]; omega
theorem prefGo_ok : ∀ (r : List Nd) (acc ps : List Txt), prefGo r acc = some ps → (∀ p ∈ acc, ∀ c ∈ p, letterB c = true) → (∀ p ∈ ps, ∀ c ∈ p, letterB c = true) ∧ ps.length = acc.length + r.length
 | [], acc, ps, h, ha => by
  obtain rfl := Option.some.inj h
  exact ⟨ha, rfl⟩
 | n :: r, acc, ps, h, ha => by
  unfold prefGo at h
  by_cases hc : 0 ≤ n.f1 ∧ n.f1 < (acc.length : Int) ∧ 0 ≤ n.f0 ∧ n.f0 ≤ 25
  ·
   rw [if_pos hc] at h
   obtain ⟨h1, h2⟩ := prefGo_ok r _ ps h (fun p hp c hcp => by
    rcases List.mem_append.1 hp with hp | hp
    ·
     exact ha p hp c hcp
    rw [List.mem_singleton.1 hp] at hcp
    rcases List.mem_append.1 hcp with hcp | hcp
    ·
     exact ha _ (getD_mem (by omega)) c hcp
    rw [List.mem_singleton.1 hcp]; exact letterB_of _ (by omega))
   exact ⟨h1, by rw [h2]; simp; omega⟩
  rw [if_neg hc] at h; cases h
theorem letter_last {p : Txt} (hw : wordL p = true) (h : p ≠ []) : UInt8.ofNat (97 + (ltrOf p).toNat) = p.getD (p.length - 1) 0 := by
 obtain ⟨h1, h2, h3⟩ := ltrOf_bd hw h
 have h4 := letter_bd ((wordL_iff.1 hw).1 _ (getLast_mem h))
 have e : 97 + (ltrOf p).toNat = (p.getD (p.length - 1) 0).toNat := by omega
 rw [e]; simp
theorem trN_get {P ws : List Txt} (i : Nat) (h : i < (trN P ws).length) : (trN P ws)[i] = mkN (ndL P ws (P.getD i [])) := by
 have h2 : i < P.length := by rwa [trN_length] at h
 rw [← rdN P ws i h2, rd_get _ i h]
theorem prefGo_tr {P : List Txt} (ws : List Txt) (hA : Asc P) (hC : Clo P) (hW : ∀ p ∈ P, wordL p = true) : ∀ (d i : Nat), i + d = P.length → 0 < i → prefGo ((trN P ws).drop i) (P.take i) = some P := by
 intro d
 induction d with
 | zero =>
  intro i h1 h2
  rw [List.drop_of_length_le (by rw [trN_length]; omega), List.take_of_length_le (by omega)]
  rfl
 | succ d ih =>
  intro i h1 h2
  have hi : i < P.length := by omega
  have hit : i < (trN P ws).length := by rw [trN_length]; exact hi
  have hne := clo_pos hA hC hi h2
  have hm := getD_mem hi
  obtain ⟨j1, j2⟩ := clo_parent hA hC hi h2
  obtain ⟨_, b1, b2⟩ := ltrOf_bd (hW _ hm) hne
  rw [List.drop_eq_getElem_cons hit, trN_get i hit]
  have hx : mkN (ndL P ws (P.getD i [])) = ⟨ltrOf (P.getD i []), (placeL P (P.getD i []).dropLast : Int), decide (P.getD i [] ∈ ws)⟩ := by unfold mkN ndL; rw [if_neg hne, if_neg hne]
  rw [hx]
  unfold prefGo
  have hl : (P.take i).length = i := by rw [List.length_take]; omega
  rw [if_pos ⟨Int.natCast_nonneg _, by show ((placeL P (P.getD i []).dropLast : Nat) : Int) < ((P.take i).length : Int); rw [hl]; exact Int.ofNat_lt.2 j1, b1, b2⟩]
  simp only [Int.toNat_natCast]
  have hg : (P.take i).getD (placeL P (P.getD i []).dropLast) [] = (P.getD i []).dropLast := by
   rw [getD_lt [] (by rw [hl]; exact j1), List.getElem_take, ← getD_lt [] (by omega), j2]
  rw [hg, letter_last (hW _ hm) hne, dropLast_getD _ hne, ← take_succ_getD [] hi]
  exact ih (i + 1) (by omega) (by omega)
theorem prefN_tr {ws : List Txt} (h : OkW ws) : prefN (trN (preL ws) ws) = some (preL ws) := by
 obtain ⟨z1, z2⟩ := clo_zero (asc_preL ws) (clo_preL ws)
 unfold prefN
 rw [trN_length, if_pos ⟨z1, h.pre⟩]
 have := prefGo_tr ws (asc_preL ws) (clo_preL ws) (fun p hp => preL_word h.word hp) ((preL ws).length - 1) 1 (by omega) (by omega)
 rw [show (preL ws).take 1 = [[]] from by rw [take_succ_getD [] z1, z2]; rfl] at this
 exact this
theorem prefixes_tr {ws : List Txt} (h : OkW ws) : Ev (fun k => impl_Trie_prefixes.f k (trN (preL ws) ws)) ((preL ws).map B, true) := by
 have := prefixes_ev (trN (preL ws) ws)
 rw [prefN_tr h] at this
 exact this
theorem trieOf_in (ws0 xs : List Txt) (w : Txt) (hw : w.length ≤ 12) (i : Nat) (hi : i ≤ 100000) (r : List Nd) (acc2 : List Txt) (hr : Ev (fun k => impl_trieOf.l0 k (ws0.map B) (acc2.map B) (xs.map B) (xs.length : Int) ((i + 1 : Nat) : Int)) r) :
  ∀ (d n : Nat) (acc : List Txt), n + d = w.length → acc ++ begF w (n + 1) d = acc2 → acc2.length ≤ 1000000 → Ev (fun k => impl_trieOf.l1 k (ws0.map B) (acc.map B) (B w) (xs.map B) (xs.length : Int) (i : Int) (w.length : Int) (n : Int)) r := by
 intro d
 induction d with
 | zero =>
  intro n acc h1 h2 h3
  rw [begF, List.append_nil] at h2
  subst h2
  refine Ev.step (fun k => impl_trieOf.l1.eq_2 ..) (Ev.ifF (by omega) ?_)
  rw [wrap64_succ i (by omega)]
  exact hr
 | succ d ih =>
  intro n acc h1 h2 h3
  have hl : acc.length ≤ 1000000 := by rw [← h2, List.length_append] at h3; omega
  refine Ev.step (fun k => impl_trieOf.l1.eq_2 ..) (Ev.ifT (by omega) ?_)
  rw [wrap64_succ n (by omega)]
  refine Ev.ifT (by omega) (Ev.ifT (by rw [size_B]; omega) (Ev.ifT (by rw [List.length_map]; omega) ?_))
  rw [extract_B, List.drop_zero, Int.toNat_natCast, Nat.sub_zero]
  have := ih (n + 1) (acc ++ [w.take (n + 1)]) (by omega) (by rw [← h2, begF]; simp) h3
  rw [List.map_append, List.map_singleton] at this
  exact this
theorem trieOf_out (ws0 xs : List Txt) (hl : xs.length ≤ 1000) (hw : ∀ w ∈ xs, w.length ≤ 12) (r : List Nd) (hr : Ev (fun k => impl_trieOf.l2 k (ws0.map B) ((preL xs).map B) ((preL xs).length : Int) 0 []) r) :
  ∀ (d i : Nat) (acc : List Txt), i + d = xs.length → acc ++ (xs.drop i).flatMap begs = [] :: xs.flatMap begs → Ev (fun k => impl_trieOf.l0 k (ws0.map B) (acc.map B) (xs.map B) (xs.length : Int) (i : Int)) r := by
 have hall := flatMap_begs_length xs hw
 have hpl := preL_length hw
 intro d
 induction d with
 | zero =>
  intro i acc h1 h2
  rw [List.drop_of_length_le (by omega), List.flatMap_nil, List.append_nil] at h2
  subst h2
  refine Ev.step (fun k => impl_trieOf.l0.eq_2 ..) (Ev.ifF (by omega) ?_)
  rw [set_eq _ (by rw [List.length_cons]; omega)]
  refine Ev.some_bind (Ev.ifT ?_ ?_)
  ·
   unfold SM.okL
   rw [Bool.and_eq_true, List.all_eq_true, decide_eq_true_eq]
   refine ⟨fun x hx => ?_, by rw [List.length_map]; show (preL xs).length ≤ _; omega⟩
   obtain ⟨y, hy, rfl⟩ := List.mem_map.1 hx
   have hy' : y ∈ preL xs := hy
   have : y.length ≤ 12 := by
    rcases mem_preL.1 hy' with rfl | ⟨w, hw', _, hp⟩
    ·
     simp
    exact Nat.le_trans hp.length_le (hw w hw')
   rw [decide_eq_true_eq, size_B]; omega
  rw [List.length_map]
  exact hr
 | succ d ih =>
  intro i acc h1 h2
  have hi : i < xs.length := by omega
  rw [drop_cons_getD [] hi, List.flatMap_cons, ← List.append_assoc] at h2
  refine Ev.step (fun k => impl_trieOf.l0.eq_2 ..) (Ev.ifT (by omega) (Ev.ifT (by omega) (Ev.ifT (by rw [List.length_map]; omega) ?_)))
  rw [rdB xs i hi, size_B]
  have hlen : (acc ++ begs (xs.getD i [])).length ≤ 1000000 := by
   have := congrArg List.length h2
   rw [List.length_append, List.length_cons] at this
   omega
  exact trieOf_in ws0 xs _ (hw _ (getD_mem hi)) i (by omega) r _ (ih (i + 1) _ (by omega) h2) (xs.getD i []).length 0 acc (by omega) (by rw [begs_begF]) hlen
theorem at_take {P : List Txt} (hA : Asc P) (q : Txt) (j : Nat) (hj : j < P.length) (hq : P.getD j [] = q) : ∀ n, n ≤ P.length → j < n → SM.at_ (List.take n (P.map B)) (B q) = (j : Int) := by
 intro n
 induction n with
 | zero => intro _ h; omega
 | succ n ih =>
  intro h1 h2
  have hn : n < P.length := by omega
  rw [← List.map_take, take_succ_getD [] hn, List.map_append, List.map_singleton]
  unfold SM.at_
  rw [List.reverse_append, List.reverse_singleton, List.singleton_append, SM.atR, data_B, data_B]
  by_cases e : P.getD n [] = q
  ·
   have : n = j := asc_inj hA hn hj (e.trans hq.symm)
   rw [if_pos e, List.length_reverse, List.length_map, List.length_take]; omega
  have hjn : j < n := by
   rcases Nat.lt_or_ge j n with h | h
   ·
    exact h
   have : j = n := by omega
   subst this; exact absurd hq e
  rw [if_neg e, List.map_take]
  exact ih (by omega) hjn
theorem trieOf_nodes {ws P : List Txt} (hs : Srt ws) (hA : Asc P) (hC : Clo P) (hW : ∀ p ∈ P, wordL p = true) (hP : P.length ≤ 100000) (hl : ws.length ≤ 100000) : ∀ (d i : Nat) (acc : List Nd), i + d = P.length → acc.length ≤ i →
  Ev (fun k => impl_trieOf.l2 k (ws.map B) (P.map B) (P.length : Int) (i : Int) acc) (acc ++ ((P.drop i).map fun p => mkN (ndL P ws p))) := by
 intro d
 induction d with
 | zero =>
  intro i acc h1 h2
  rw [List.drop_of_length_le (by omega), List.map_nil, List.append_nil]
  exact Ev.step (fun k => impl_trieOf.l2.eq_2 ..) (Ev.ifF (by omega) (Ev.now _))
 | succ d ih =>
  intro i acc h1 h2
  have hi : i < P.length := by omega
  have hm := getD_mem hi
  rw [drop_cons_getD [] hi, List.map_cons]
  refine Ev.step (fun k => impl_trieOf.l2.eq_2 ..) (Ev.ifT (by omega) (Ev.ifT (by omega) (Ev.ifT (by rw [List.length_map]; omega) ?_)))
  rw [rdB P i hi]
  obtain ⟨q, _, _, _, hq⟩ := search_ev ws (P.getD i []) (by omega) hs
  refine Ev.bind hq ?_
  have hcons : ∀ x : Nd, acc ++ (x :: (P.drop (i + 1)).map fun p => mkN (ndL P ws p)) = (acc ++ [x]) ++ (P.drop (i + 1)).map fun p => mkN (ndL P ws p) := fun x => by simp
  rw [hcons, toList_B]
  by_cases hp : P.getD i [] = []
  ·
   refine Ev.ifT hp (Ev.ifT (by omega) ?_)
   have hx : mkN (ndL P ws (P.getD i [])) = ⟨-1, -1, decide (P.getD i [] ∈ ws)⟩ := by unfold mkN ndL; rw [if_pos hp, if_pos hp]
   rw [hx, wrap64_succ i (by omega)]
   exact ih (i + 1) _ (by omega) (by simp; omega)
  have h0 : 0 < i := by
   rcases Nat.eq_zero_or_pos i with e | e
   ·
    rw [e, (clo_zero hA hC).2] at hp; exact absurd rfl hp
   exact e
  have hlen := List.length_pos_iff.2 hp
  have h12 := (wordL_iff.1 (hW _ hm)).2
  obtain ⟨j1, j2⟩ := clo_parent hA hC hi h0
  have hw1 : wrap64 (((B (P.getD i [])).size : Int) - 1) = ((P.getD i []).length - 1 : Nat) := by rw [size_B, wrap64_id (by omega) (by omega)]; omega
  rw [hw1]
  refine Ev.ifF hp (Ev.ifT (by omega) (Ev.ifT (by rw [size_B]; omega) (Ev.ifT (by rw [size_B]; omega) (Ev.ifT (by omega) ?_))))
  rw [extract_B, List.drop_zero, Int.toNat_natCast, Int.toNat_natCast, Nat.sub_zero, ← List.dropLast_eq_take, at_take hA _ _ (by omega) j2 (i + 1) (by omega) (by omega)]
  have hx : mkN (ndL P ws (P.getD i [])) = ⟨((bt (B (P.getD i [])) (((P.getD i []).length - 1 : Nat) : Int)) - 97) % 256, (placeL P (P.getD i []).dropLast : Int), decide (P.getD i [] ∈ ws)⟩ := by
   unfold mkN ndL
   rw [if_neg hp, if_neg hp, bt_B _ _ (by omega)]
   rfl
  rw [hx, wrap64_succ i (by omega)]
  exact ih (i + 1) _ (by omega) (by simp; omega)
theorem trieOf_srt {ws : List Txt} (hs : Srt ws) (hw : ∀ w ∈ ws, wordL w = true) (hl : ws.length ≤ 1000) : Ev (fun k => impl_trieOf.f k (ws.map B)) (trN (preL ws) ws) := by
 have hle : ∀ w ∈ ws, w.length ≤ 12 := fun w h => (wordL_iff.1 (hw w h)).2
 have hpl := preL_length hle
 have hn := trieOf_nodes hs (asc_preL ws) (clo_preL ws) (fun p hp => preL_word hw hp) (by omega) (by omega) (preL ws).length 0 [] (by omega) (by simp)
 rw [List.drop_zero, List.nil_append] at hn
 have e : (preL ws).map (fun p => mkN (ndL (preL ws) ws p)) = trN (preL ws) ws := by unfold trN nodesL; rw [List.map_map]; rfl
 rw [e] at hn
 unfold impl_trieOf.f
 rw [List.length_map]
 exact trieOf_out ws ws hl hle _ hn ws.length 0 [[]] (by omega) rfl
theorem trieOf_ev {ws : List Txt} (h : OkW ws) : Ev (fun k => impl_trieOf.f k (ws.map B)) (trN (preL ws) ws) := trieOf_srt (srt_asc h.asc) h.word (by have := h.len; omega)
end Go.Proofs.YtnnkedeohfbkeaaGreatDoor.L
namespace Go.Proofs.YtnnkedeohfbkeaaGreatDoor.L
open Go.RowKit Go.Proofs.YtnnkedeohfbkeaaGreatDoor.P Go.Proofs.YtnnkedeohfbkeaaGreatDoor.M Go.Proofs.YtnnkedeohfbkeaaGreatDoorW.PrintWords Go.Proofs.YtnnkedeohfbkeaaGreatDoorW.PrintLast Go.Proofs.YtnnkedeohfbkeaaGreatDoorW.PrintMore
namespace Mach
theorem f1_pos {P : List Txt} (ws : List Txt) (hA : Asc P) (hC : Clo P) {j : Nat} (hj : j < P.length) (h0 : 0 < j) : (rd_T96 (trN P ws) (j : Int)).f1 = (placeL P (P.getD j []).dropLast : Int) := by
 rw [rdN P ws j hj]
 show (if P.getD j [] = [] then -1 else (placeL P (P.getD j []).dropLast : Int)) = _
 rw [if_neg (clo_pos hA hC hj h0)]
theorem f0_pos {P : List Txt} (ws : List Txt) (hA : Asc P) (hC : Clo P) (hW : ∀ p ∈ P, wordL p = true) {j : Nat} (hj : j < P.length) (hne : P.getD j [] ≠ []) : (rd_T96 (trN P ws) (j : Int)).f0 = (((P.getD j []).getD ((P.getD j []).length - 1) 0).toNat : Int) - 97 := by
 rw [rdN P ws j hj]
 unfold mkN ndL
 rw [if_neg hne]
 exact (ltrOf_bd (hW _ (getD_mem hj)) hne).1
theorem f2_eq {P : List Txt} (ws : List Txt) {j : Nat} (hj : j < P.length) : (rd_T96 (trN P ws) (j : Int)).f2 = decide (P.getD j [] ∈ ws) := by
 rw [rdN P ws j hj]; rfl
def isKid (P : List Txt) (p : Txt) (j : Nat) : Bool := decide (P.getD j [] ≠ [] ∧ (P.getD j []).dropLast = p)
def kidU (P : List Txt) (p : Txt) (n : Nat) : List Int := ((List.range n).filter (isKid P p)).map fun j : Nat => (j : Int)
theorem kidU_succ (P : List Txt) (p : Txt) (n : Nat) : kidU P p (n + 1) = kidU P p n ++ if isKid P p n = true then [(n : Int)] else [] := by
 unfold kidU
 rw [List.range_succ, List.filter_append, List.map_append]
 congr 1
 by_cases h : isKid P p n = true
 ·
  rw [if_pos h, List.filter_cons, if_pos h]; rfl
 rw [if_neg h, List.filter_cons, if_neg h]; rfl
theorem kidU_length (P : List Txt) (p : Txt) (n : Nat) : (kidU P p n).length ≤ n := by
 unfold kidU
 rw [List.length_map]
 exact Nat.le_trans (List.length_filter_le _ _) (by simp)
theorem range_getD (P : List Txt) : (List.range P.length).map (fun j => P.getD j []) = P := by
 apply List.ext_getElem?
 intro j
 rw [List.getElem?_map]
 by_cases h : j < P.length
 ·
  rw [List.getElem?_range h, Option.map_some, getD_lt [] h, List.getElem?_eq_getElem h]
 rw [List.getElem?_eq_none (by simp; omega), List.getElem?_eq_none (by omega)]; rfl
theorem kidU_all {P : List Txt} (hA : Asc P) (p : Txt) : kidU P p P.length = (kidsL P p).map fun q => (placeL P q : Int) := by
 have e : kidsL P p = ((List.range P.length).filter (isKid P p)).map fun j => P.getD j [] := by
  unfold kidsL
  conv => lhs; rw [← range_getD P]
  rw [List.filter_map]
  rfl
 rw [e, List.map_map]
 unfold kidU
 refine List.map_congr_left fun j hj => ?_
 have h1 := List.mem_range.1 (List.mem_filter.1 hj).1
 show (j : Int) = _
 simp only [Function.comp]
 rw [placeL_get hA h1]
def kidW (ws : List Txt) (i : Nat) : List Int := (letsL (behL ws ((preL ws).getD i []))).map fun c => (placeL (preL ws) ((preL ws).getD i [] ++ [c]) : Int)
theorem kidW_eq {ws : List Txt} (h : OkW ws) (i : Nat) : kidU (preL ws) ((preL ws).getD i []) (preL ws).length = kidW ws i := by
 rw [kidU_all (asc_preL ws), kidsL_eq h, List.map_map]
 rfl
theorem kidW_length (ws : List Txt) (i : Nat) : (kidW ws i).length = (letsL (behL ws ((preL ws).getD i []))).length := List.length_map _
theorem resL_get {ws : List Txt} {i : Nat} (hi : i < (preL ws).length) : (resL ws).getD i [] = behL ws ((preL ws).getD i []) := by
 unfold resL
 rw [getD_lt _ (by simpa using hi), getD_lt _ hi, List.getElem_map]
theorem kid_at {ws : List Txt} (h : OkW ws) {i j : Nat} (hi : i < (preL ws).length) (hj : j < (kidW ws i).length) :
  ∃ q : Nat, (kidW ws i).getD j 0 = (q : Int) ∧ q < (preL ws).length ∧ i < q ∧ (letsL ((resL ws).getD i [])).getD j 0 ∈ letsL ((resL ws).getD i []) ∧
   (rd_T96 (trN (preL ws) ws) (q : Int)).f0 = (((letsL ((resL ws).getD i [])).getD j 0).toNat : Int) - 97 ∧ (resL ws).getD q [] = succL ((resL ws).getD i []) ((letsL ((resL ws).getD i [])).getD j 0) := by
 rw [resL_get hi]
 have hl : j < (letsL (behL ws ((preL ws).getD i []))).length := by rw [← kidW_length]; exact hj
 have hm : (letsL (behL ws ((preL ws).getD i []))).getD j 0 ∈ letsL (behL ws ((preL ws).getD i [])) := by rw [getD_lt 0 hl]; exact List.getElem_mem _
 have hp := pre_snoc.2 ((mem_letsL (Res.beh12 h ((preL ws).getD i []))).1 hm)
 obtain ⟨q1, q2⟩ := placeL_mem hp
 refine ⟨_, ?_, q1, ?_, hm, ?_, ?_⟩
 ·
  unfold kidW
  rw [getD_lt 0 (by simpa using hl), List.getElem_map, getD_lt 0 hl]
 ·
  refine asc_get_lt (asc_preL ws) hi q1 ?_
  rw [q2]
  exact txt_lt_snoc _ _
 ·
  rw [f0_pos ws (asc_preL ws) (clo_preL ws) (fun p hp => preL_word h.word hp) q1 (by rw [q2]; simp), q2]
  simp
 rw [resL_get q1, q2, behL_snoc h.asc]
end Mach
end Go.Proofs.YtnnkedeohfbkeaaGreatDoor.L
namespace Go.Proofs.YtnnkedeohfbkeaaGreatDoor.L
open Go.RowKit Go.Proofs.YtnnkedeohfbkeaaGreatDoor.P Go.Proofs.YtnnkedeohfbkeaaGreatDoor.M Go.Proofs.YtnnkedeohfbkeaaGreatDoorW.PrintWords Go.Proofs.YtnnkedeohfbkeaaGreatDoorW.PrintLast Go.Proofs.YtnnkedeohfbkeaaGreatDoorW.PrintMore
namespace Mach
def fL (ws : List Txt) (n : Nat) : List (List Txt) := firstL [] ((resL ws).take n)
theorem fL_zero (ws : List Txt) : fL ws 0 = [] := rfl
theorem fL_succ {ws : List Txt} {n : Nat} (h : n < (preL ws).length) : fL ws (n + 1) = if (resL ws).getD n [] ∈ fL ws n then fL ws n else fL ws n ++ [(resL ws).getD n []] := by
 unfold fL
 rw [take_succ_getD [] (by rw [resL_length]; exact h), firstL_snoc]
theorem fL_all (ws : List Txt) : fL ws (preL ws).length = dL ws := by
 unfold fL dL
 rw [List.take_of_length_le (by rw [resL_length]; exact Nat.le_refl _)]
theorem fL_pre (ws : List Txt) : ∀ d n, n + d = (preL ws).length → fL ws n <+: dL ws
 | 0, n, h => by rw [show n = (preL ws).length from by omega, fL_all]; exact List.prefix_refl _
 | d + 1, n, h => by
  refine List.IsPrefix.trans ?_ (fL_pre ws d (n + 1) (by omega))
  rw [fL_succ (by omega)]
  split
  ·
   exact List.prefix_refl _
  exact List.prefix_append _ _
theorem fL_pre' {ws : List Txt} {n : Nat} (h : n ≤ (preL ws).length) : fL ws n <+: dL ws := fL_pre ws _ n (Nat.add_sub_of_le h)
theorem fL_nodup (ws : List Txt) (n : Nat) : (fL ws n).Nodup := firstL_nodup _ _ List.nodup_nil
theorem fL_length (ws : List Txt) (n : Nat) (h : n ≤ (preL ws).length) : (fL ws n).length ≤ n := by
 have := firstL_length ((resL ws).take n) []
 rw [List.length_take, resL_length] at this
 unfold fL
 simp at this
 omega
theorem fL_mem {ws : List Txt} {n : Nat} (h : n < (preL ws).length) : (resL ws).getD n [] ∈ fL ws (n + 1) := by
 rw [fL_succ h]
 split
 ·
  assumption
 exact List.mem_append_right _ (List.mem_singleton.2 rfl)
theorem res_mem {ws : List Txt} {n : Nat} (h : n < (preL ws).length) : (resL ws).getD n [] ∈ dL ws := (fL_pre' (by omega)).subset (fL_mem h)
theorem idx_met {ws : List Txt} {n : Nat} (h : n ≤ (preL ws).length) {b : List Txt} (hb : b ∈ fL ws n) : (dL ws).idxOf b = (fL ws n).idxOf b := idx_pre (fL_pre' h) hb
theorem idx_first {ws : List Txt} {n : Nat} (h : n < (preL ws).length) (hn : (resL ws).getD n [] ∉ fL ws n) : (dL ws).idxOf ((resL ws).getD n []) = (fL ws n).length := by
 rw [idx_met (n := n + 1) (by omega) (fL_mem h), fL_succ h, if_neg hn, idx_new hn]
theorem idx_lt {ws : List Txt} {b : List Txt} (h : b ∈ dL ws) : (dL ws).idxOf b < (dL ws).length := List.idxOf_lt_length_of_mem h
theorem idx_old {ws : List Txt} {n : Nat} (h : n ≤ (preL ws).length) {b : List Txt} (hb : b ∈ fL ws n) : (dL ws).idxOf b < (fL ws n).length := by
 rw [idx_met h hb]
 exact List.idxOf_lt_length_of_mem hb
theorem idxOf_getE : ∀ {l : List (List Txt)} {b : List Txt}, b ∈ l → l[l.idxOf b]? = some b
 | [], _, h => by cases h
 | x :: r, b, h => by
  rw [List.idxOf_cons]
  by_cases e : x = b
  ·
   subst e; simp
  have hr : b ∈ r := by
   rcases List.mem_cons.1 h with k | k
   ·
    exact absurd k.symm e
   exact k
  rw [show (x == b) = false from beq_eq_false_iff_ne.2 e, cond_false, List.getElem?_cons_succ]
  exact idxOf_getE hr
theorem idxOf_nodup {l : List (List Txt)} (hn : l.Nodup) (j : Nat) (hj : j < l.length) : l.idxOf l[j] = j := by
 have h1 := idxOf_getE (List.getElem_mem hj)
 have h2 : l.idxOf l[j] < l.length := List.idxOf_lt_length_of_mem (List.getElem_mem hj)
 rw [List.getElem?_eq_getElem h2] at h1
 have h3 := Option.some.inj h1
 rcases Nat.lt_trichotomy (l.idxOf l[j]) j with h4 | h4 | h4
 ·
  exact absurd h3 (List.pairwise_iff_getElem.1 hn _ _ h2 hj h4)
 ·
  exact h4
 exact absurd h3.symm (List.pairwise_iff_getElem.1 hn _ _ hj h2 h4)
theorem idx_get {ws : List Txt} {b : List Txt} (h : b ∈ dL ws) : (dL ws)[(dL ws).idxOf b]? = some b := idxOf_getE h
def mkS (x : Bool × List (Int × Int)) : S72 := ⟨x.1, x.2.map fun y => ⟨y.1, y.2⟩⟩
def stW (ws : List Txt) (b : List Txt) : S72 := mkS (stL (dL ws) b)
def machW (ws : List Txt) : List S72 := (dL ws).map (stW ws)
theorem machW_length (ws : List Txt) : (machW ws).length = (dL ws).length := List.length_map _
def edgeW (ws : List Txt) (b : List Txt) (c : UInt8) : S88 := ⟨(c.toNat : Int) - 97, ((dL ws).idxOf (succL b c) : Int)⟩
theorem stW_eq (ws : List Txt) (b : List Txt) : stW ws b = ⟨decide ([] ∈ b), (letsL b).map (edgeW ws b)⟩ := by
 unfold stW mkS stL
 rw [List.map_map]
 rfl
theorem end_eq {ws : List Txt} {j : Nat} (hj : j < (preL ws).length) : (rd_T96 (trN (preL ws) ws) (j : Int)).f2 = decide ([] ∈ (resL ws).getD j []) := by
 rw [f2_eq ws hj, resL_get hj]
 congr 1
 exact propext (by rw [mem_behL, List.append_nil])
theorem lastR {ws : List Txt} {j : Nat} (hj : j < (preL ws).length) : lastL (resL ws) ((resL ws).getD j []) < (preL ws).length ∧ (resL ws).getD (lastL (resL ws) ((resL ws).getD j [])) [] = (resL ws).getD j [] := by
 have h := lastL_spec (getR_mem (R := resL ws) (i := j) (by rw [resL_length]; exact hj))
 rw [resL_length] at h
 exact ⟨h.1, h.2.1⟩
end Mach
end Go.Proofs.YtnnkedeohfbkeaaGreatDoor.L
namespace Go.Proofs.YtnnkedeohfbkeaaGreatDoor.L
open Go.RowKit Go.Proofs.YtnnkedeohfbkeaaGreatDoor.P Go.Proofs.YtnnkedeohfbkeaaGreatDoor.M Go.Proofs.YtnnkedeohfbkeaaGreatDoorW.PrintWords Go.Proofs.YtnnkedeohfbkeaaGreatDoorW.PrintLast Go.Proofs.YtnnkedeohfbkeaaGreatDoorW.PrintMore
namespace Mach
abbrev Stt := S72
abbrev Edg := S88
def EdgeOk (n : Nat) (e : Edg) : Prop := 0 ≤ e.f0 ∧ e.f0 ≤ 25 ∧ 0 ≤ e.f1 ∧ e.f1 < (n : Int)
def EdgesOk (m : List Stt) : Prop := ∀ x ∈ m, x.f1.length ≤ 1048576 ∧ ∀ e ∈ x.f1, EdgeOk m.length e
def ltr (e : Edg) : UInt8 := UInt8.ofNat (97 + e.f0.toNat)
theorem ltr_str {n : Nat} {e : Edg} (h : EdgeOk n e) : strOfNums ([(wrap64 (97 + e.f0)) % 256] : List Int) = B [ltr e] := by
 obtain ⟨h0, h1, _, _⟩ := h
 rw [strOfNums_B, wrap64_id (by omega) (by omega)]
 unfold ltr
 congr 2
 have : ((97 + e.f0) % 256).toNat = 97 + e.f0.toNat := by omega
 rw [this]
theorem ltr_let {n : Nat} {e : Edg} (h : EdgeOk n e) : letterB (ltr e) = true := by
 obtain ⟨h0, h1, _, _⟩ := h
 unfold letterB ltr
 have : (UInt8.ofNat (97 + e.f0.toNat)).toNat = 97 + e.f0.toNat := by simp; omega
 rw [decide_eq_true_eq, this]
 omega
theorem rd_get {m : List Stt} {st : Int} (h0 : 0 ≤ st) (h1 : st < (m.length : Int)) : ∃ x ∈ m, rd_T72 m st = x := by
 have h2 : st.toNat < m.length := by omega
 refine ⟨m[st.toNat], List.getElem_mem h2, ?_⟩
 unfold rd_T72
 rw [List.getD_eq_getElem?_getD, List.getElem?_eq_getElem h2]
 rfl
theorem rd_edge {l : List Edg} {i : Nat} (h : i < l.length) : rd_T88 l (i : Int) = l[i] := by
 unfold rd_T88
 rw [Int.toNat_natCast, List.getD_eq_getElem?_getD, List.getElem?_eq_getElem h]
 rfl
structure WalkOut (ws : List Txt) (gone g : Nat) : Prop where
 word : ∀ w ∈ ws, wordL w = true
 more : gone ≤ g
 top : g ≤ 482
 len : ws.length + gone ≤ g
theorem walk_ex (m : List Stt) (hm : EdgesOk m) : ∀ (d : Nat) (so : Txt) (st : Int) (gone : Nat), so.length + d = 12 → (∀ c ∈ so, letterB c = true) → 0 ≤ st → st < (m.length : Int) → gone ≤ 481 →
  ∃ (ws : List Txt) (g : Nat), Ev (fun k => spec_l7Walk.f k m st (B so) (gone : Int)) (ws.map B, (g : Int)) ∧ WalkOut ws gone g := by
 intro d
 induction d with
 | zero =>
  intro so st gone hd hso h0 h1 hg
  have hw : wordL so = true := wordL_iff.2 ⟨hso, by omega⟩
  obtain ⟨x, hx, ex⟩ := rd_get h0 h1
  have stop : ∀ (out : List Txt) (g : Nat), g ≤ 482 → Ev (fun k => spec_l7Walk.l0 k st (B so) (g : Int) (out.map B) 0 m) (out.map B, (g : Int)) := by
   intro out g hg
   refine Ev.step (fun k => spec_l7Walk.l0.eq_2 ..) (Ev.ifT h0 (Ev.ifT h1 ?_))
   by_cases c1 : (0 : Int) < ((rd_T72 m st).f1.length : Int)
   ·
    refine Ev.ifT c1 ?_
    by_cases c2 : (g : Int) ≤ 481
    ·
     exact Ev.ifT c2 (Ev.ifF (by rw [size_B]; omega) (Ev.now _))
    exact Ev.ifF c2 (Ev.now _)
   exact Ev.ifF c1 (Ev.now _)
  by_cases he : (rd_T72 m st).f0 = true
  ·
   refine ⟨[so], gone + 1, ?_, ⟨fun w hw2 => by rw [List.mem_singleton.1 hw2]; exact hw, by omega, by omega, by simp; omega⟩⟩
   refine Ev.step (fun k => spec_l7Walk.f.eq_2 ..) (Ev.some_bind (Ev.ifT h0 (Ev.ifT h1 (Ev.ifT he (Ev.ifT (by simp) (Ev.step (fun k => spec_l7Walk.j0.eq_2 ..) ?_))))))
   rw [wrap64_succ gone (by omega)]
   exact stop [so] (gone + 1) (by omega)
  refine ⟨[], gone + 1, ?_, ⟨fun w hw2 => by simp at hw2, by omega, by omega, by simp⟩⟩
  refine Ev.step (fun k => spec_l7Walk.f.eq_2 ..) (Ev.some_bind (Ev.ifT h0 (Ev.ifT h1 (Ev.ifF he (Ev.step (fun k => spec_l7Walk.j0.eq_2 ..) ?_)))))
  rw [wrap64_succ gone (by omega)]
  exact stop [] (gone + 1) (by omega)
 | succ d ih =>
  intro so st gone hd hso h0 h1 hg
  have hw : wordL so = true := wordL_iff.2 ⟨hso, by omega⟩
  obtain ⟨x, hx, ex⟩ := rd_get h0 h1
  have hxe := hm x hx
  have loop : ∀ (n i : Nat) (out : List Txt) (g : Nat), i + n = x.f1.length → WalkOut out gone g → gone < g →
    ∃ (ws : List Txt) (g' : Nat), Ev (fun k => spec_l7Walk.l0 k st (B so) (g : Int) (out.map B) (i : Int) m) (ws.map B, (g' : Int)) ∧ WalkOut ws gone g' := by
   intro n
   induction n with
   | zero =>
    intro i out g hi ho hgg
    refine ⟨out, g, Ev.step (fun k => spec_l7Walk.l0.eq_2 ..) (Ev.ifT h0 (Ev.ifT h1 (Ev.ifF ?_ (Ev.now _)))), ho⟩
    rw [ex]; omega
   | succ n ihn =>
    intro i out g hi ho hgg
    have hil : i < x.f1.length := by omega
    have heo := hxe.2 _ (List.getElem_mem hil)
    by_cases c2 : (g : Int) ≤ 481
    rotate_left
    ·
     refine ⟨out, g, Ev.step (fun k => spec_l7Walk.l0.eq_2 ..) (Ev.ifT h0 (Ev.ifT h1 (Ev.ifT (by rw [ex]; omega) (Ev.ifF c2 (Ev.now _))))), ho⟩
    obtain ⟨v, g2, hv, hvo⟩ := ih (so ++ [ltr x.f1[i]]) x.f1[i].f1 g (by simp; omega) (fun c hc => by
     rcases List.mem_append.1 hc with h | h
     ·
      exact hso c h
     rw [List.mem_singleton.1 h]; exact ltr_let heo) heo.2.2.1 heo.2.2.2 (by omega)
    obtain ⟨ws, g', hws, hwo⟩ := ihn (i + 1) (out ++ v) g2 (by omega) ⟨fun w hw => by
     rcases List.mem_append.1 hw with h | h
     ·
      exact ho.word w h
     exact hvo.word w h, by have := ho.more; have := hvo.more; omega, hvo.top, by rw [List.length_append]; have := ho.len; have := hvo.len; omega⟩ (by have := hvo.more; omega)
    refine ⟨ws, g', Ev.step (fun k => spec_l7Walk.l0.eq_2 ..) (Ev.ifT h0 (Ev.ifT h1 (Ev.ifT (by rw [ex]; omega) (Ev.ifT c2 (Ev.ifT (by rw [size_B]; omega) (Ev.ifT (by omega) (Ev.some_bind ?_))))))), hwo⟩
    rw [ex, rd_edge hil, ltr_str heo, append_B, wrap64_succ i (by omega)]
    refine Ev.ifT (by rw [size_B, size_B]; simp; omega) (Ev.bind hv (Ev.ifT ?_ ?_))
    ·
     rw [List.length_map, List.length_map]
     have := ho.len; have := ho.top; have := hvo.len; have := hvo.top
     omega
    rw [← List.map_append]
    exact hws
  by_cases he : (rd_T72 m st).f0 = true
  ·
   obtain ⟨ws, g', h2, h3⟩ := loop x.f1.length 0 [so] (gone + 1) (by omega) ⟨fun w hw2 => by rw [List.mem_singleton.1 hw2]; exact hw, by omega, by omega, by simp; omega⟩ (by omega)
   refine ⟨ws, g', Ev.step (fun k => spec_l7Walk.f.eq_2 ..) (Ev.some_bind (Ev.ifT h0 (Ev.ifT h1 (Ev.ifT he (Ev.ifT (by simp) (Ev.step (fun k => spec_l7Walk.j0.eq_2 ..) ?_)))))), h3⟩
   rw [wrap64_succ gone (by omega)]
   exact h2
  obtain ⟨ws, g', h2, h3⟩ := loop x.f1.length 0 [] (gone + 1) (by omega) ⟨fun w hw2 => by simp at hw2, by omega, by omega, by simp⟩ (by omega)
  refine ⟨ws, g', Ev.step (fun k => spec_l7Walk.f.eq_2 ..) (Ev.some_bind (Ev.ifT h0 (Ev.ifT h1 (Ev.ifF he (Ev.step (fun k => spec_l7Walk.j0.eq_2 ..) ?_))))), h3⟩
  rw [wrap64_succ gone (by omega)]
  exact h2
end Mach
end Go.Proofs.YtnnkedeohfbkeaaGreatDoor.L
namespace Go.Proofs.YtnnkedeohfbkeaaGreatDoor.L
open Go.RowKit Go.Proofs.YtnnkedeohfbkeaaGreatDoor.P Go.Proofs.YtnnkedeohfbkeaaGreatDoor.M Go.Proofs.YtnnkedeohfbkeaaGreatDoorW.PrintWords Go.Proofs.YtnnkedeohfbkeaaGreatDoorW.PrintLast Go.Proofs.YtnnkedeohfbkeaaGreatDoorW.PrintMore
deriving instance DecidableEq for S88
deriving instance DecidableEq for S72
namespace Mach
theorem rd_st {m : List Stt} {i : Nat} (h : i < m.length) : rd_T72 m (i : Int) = m[i] := by
 unfold rd_T72
 rw [Int.toNat_natCast, List.getD_eq_getElem?_getD, List.getElem?_eq_getElem h]
 rfl
theorem edge_ne (a b : Edg) : (!(a.f0 == b.f0) || !(a.f1 == b.f1)) = decide (a ≠ b) := by
 obtain ⟨a0, a1⟩ := a
 obtain ⟨b0, b1⟩ := b
 by_cases h0 : a0 = b0
 ·
  by_cases h1 : a1 = b1
  ·
   subst h0 h1; simp
  simp [h0, h1]
 simp [h0]
theorem drop_eq {α : Type} {l m : List α} {i : Nat} (hl : i < l.length) (hm : i < m.length) : l.drop i = m.drop i ↔ l[i] = m[i] ∧ l.drop (i + 1) = m.drop (i + 1) := by
 rw [List.drop_eq_getElem_cons hl, List.drop_eq_getElem_cons hm, List.cons.injEq]
theorem l7Same_in (A C : List Stt) (x y : Stt) (x5 : Int) (hx : x.f1.length ≤ 4294967296) (he : x.f1.length = y.f1.length) (r : Bool) (hr : Ev (fun k => spec_l7Same.l0 k (wrap64 (x5 + 1)) A C) r) : ∀ (d i : Nat), i + d = x.f1.length →
  Ev (fun k => spec_l7Same.l1 k x5 (i : Int) A C x.f0 x.f1 y.f0 y.f1) (decide (x.f1.drop i = y.f1.drop i) && r) := by
 intro d
 induction d with
 | zero =>
  intro i hi
  rw [List.drop_eq_nil_of_le (by omega), List.drop_eq_nil_of_le (by omega)]
  refine Ev.step (fun k => spec_l7Same.l1.eq_2 ..) (Ev.ifF (by omega) ?_)
  simpa using hr
 | succ d ih =>
  intro i hi
  have h1 : i < x.f1.length := by omega
  have h2 : i < y.f1.length := by omega
  refine Ev.step (fun k => spec_l7Same.l1.eq_2 ..) (Ev.ifT (by omega) (Ev.ifT (by omega) (Ev.ifT (by omega) ?_)))
  rw [rd_edge h1, rd_edge h2, edge_ne]
  by_cases e : x.f1[i] = y.f1[i]
  ·
   rw [decide_eq_false (by simpa using e)]
   refine Ev.ifF (by simp) ?_
   rw [wrap64_succ i (by omega), show decide (x.f1.drop i = y.f1.drop i) = decide (x.f1.drop (i + 1) = y.f1.drop (i + 1)) from by congr 1; rw [drop_eq h1 h2]; simp [e]]
   exact ih (i + 1) (by omega)
  rw [decide_eq_true e, decide_eq_false (fun k => e ((drop_eq h1 h2).1 k).1)]
  exact Ev.ifT rfl (Ev.now _)
theorem st_ext {x y : Stt} : x = y ↔ x.f0 = y.f0 ∧ x.f1 = y.f1 := by
 obtain ⟨a, b⟩ := x
 obtain ⟨c, d⟩ := y
 simp
theorem l7Same_out (A C : List Stt) (hA : A.length ≤ 4294967296) (hx : ∀ x ∈ A, x.f1.length ≤ 4294967296) (he : A.length = C.length) : ∀ (d i : Nat), i + d = A.length →
  Ev (fun k => spec_l7Same.l0 k (i : Int) A C) (decide (A.drop i = C.drop i)) := by
 intro d
 induction d with
 | zero =>
  intro i hi
  rw [List.drop_eq_nil_of_le (by omega), List.drop_eq_nil_of_le (by omega)]
  exact Ev.step (fun k => spec_l7Same.l0.eq_2 ..) (Ev.ifF (by omega) (Ev.now _))
 | succ d ih =>
  intro i hi
  have h1 : i < A.length := by omega
  have h2 : i < C.length := by omega
  have hr := ih (i + 1) (by omega)
  rw [← wrap64_succ i (by omega)] at hr
  refine Ev.step (fun k => spec_l7Same.l0.eq_2 ..) (Ev.ifT (by omega) (Ev.ifT (by omega) (Ev.ifT (by omega) ?_)))
  rw [rd_st h1, rd_st h2]
  have fin : ∀ b : Bool, A[i] ≠ C[i] → decide (A.drop i = C.drop i) = false := fun b h => decide_eq_false fun k => h ((drop_eq h1 h2).1 k).1
  by_cases e0 : A[i].f0 = C[i].f0
  ·
   refine Ev.ifF (by simp [e0]) ?_
   by_cases e1 : A[i].f1.length = C[i].f1.length
   ·
    refine Ev.step (fun k => spec_l7Same.j1.eq_2 ..) (Ev.ifF (by simp [e1]) ?_)
    have := l7Same_in A C A[i] C[i] (i : Int) (hx _ (List.getElem_mem h1)) e1 _ hr A[i].f1.length 0 (by omega)
    rw [List.drop_zero, List.drop_zero] at this
    have e2 : decide (A.drop i = C.drop i) = (decide (A[i].f1 = C[i].f1) && decide (A.drop (i + 1) = C.drop (i + 1))) := by
     rw [← Bool.decide_and]
     congr 1
     rw [drop_eq h1 h2, st_ext]
     simp [e0]
    rw [e2]
    exact this
   rw [fin true fun k => e1 (by rw [k])]
   exact Ev.step (fun k => spec_l7Same.j1.eq_2 ..) (Ev.ifT (by simp; omega) (Ev.now _))
  rw [fin true fun k => e0 (by rw [k])]
  exact Ev.ifT (by simp [e0]) (Ev.step (fun k => spec_l7Same.j1.eq_2 ..) (Ev.ifT rfl (Ev.now _)))
theorem l7Same_ev (A C : List Stt) (hA : A.length ≤ 4294967296) (hx : ∀ x ∈ A, x.f1.length ≤ 4294967296) : Ev (fun k => spec_l7Same.f k A C) (decide (A = C)) := by
 unfold spec_l7Same.f
 by_cases he : A.length = C.length
 ·
  have := l7Same_out A C hA hx he A.length 0 (by omega)
  rw [List.drop_zero, List.drop_zero] at this
  exact Ev.ifT (by omega) this
 rw [decide_eq_false fun k => he (by rw [k])]
 exact Ev.ifF (by omega) (Ev.now _)
theorem equal_edges (X Y : List Edg) (hX : X.length ≤ 4294967296) (he : X.length = Y.length) : ∀ (d i : Nat), i + d = X.length →
  Ev (fun k => slices_Equal_2_int_2_int.l0 k X Y (X.length : Int) (i : Int)) (decide (X.drop i = Y.drop i)) := by
 intro d
 induction d with
 | zero =>
  intro i hi
  rw [List.drop_eq_nil_of_le (by omega), List.drop_eq_nil_of_le (by omega)]
  exact Ev.step (fun k => slices_Equal_2_int_2_int.l0.eq_2 ..) (Ev.ifF (by omega) (Ev.now _))
 | succ d ih =>
  intro i hi
  have h1 : i < X.length := by omega
  have h2 : i < Y.length := by omega
  refine Ev.step (fun k => slices_Equal_2_int_2_int.l0.eq_2 ..) (Ev.ifT (by omega) (Ev.ifT (by omega) (Ev.ifT (by omega) (Ev.ifT (by omega) ?_))))
  rw [rd_edge h1, rd_edge h2, edge_ne]
  by_cases e : X[i] = Y[i]
  ·
   rw [decide_eq_false (by simpa using e)]
   refine Ev.ifF (by simp) ?_
   rw [wrap64_succ i (by omega), show decide (X.drop i = Y.drop i) = decide (X.drop (i + 1) = Y.drop (i + 1)) from by congr 1; rw [drop_eq h1 h2]; simp [e]]
   exact ih (i + 1) (by omega)
  rw [decide_eq_true e, decide_eq_false (fun k => e ((drop_eq h1 h2).1 k).1)]
  exact Ev.ifT rfl (Ev.now _)
theorem sameState_ev (x y : Stt) (hx : x.f1.length ≤ 4294967296) : Ev (fun k => impl_sameState.f k x.f0 x.f1 y.f0 y.f1) (decide (x = y)) := by
 unfold impl_sameState.f
 by_cases e0 : x.f0 = y.f0
 ·
  refine Ev.ifT (by simp [e0]) ?_
  have e : decide (x = y) = decide (x.f1 = y.f1) := by congr 1; rw [st_ext]; simp [e0]
  rw [e]
  unfold slices_Equal_2_int_2_int.f
  by_cases he : x.f1.length = y.f1.length
  ·
   have := equal_edges x.f1 y.f1 hx he x.f1.length 0 (by omega)
   rw [List.drop_zero, List.drop_zero] at this
   exact Ev.bind (Ev.ifT (by omega) this) (Ev.now _)
  rw [decide_eq_false fun k => he (by rw [k])]
  exact Ev.bind (Ev.ifF (by omega) (Ev.now _)) (Ev.now _)
 rw [decide_eq_false fun k => e0 (by rw [k])]
 exact Ev.ifF (by simp [e0]) (Ev.now _)
theorem equalF_out (A C : List Stt) (hA : A.length ≤ 4294967296) (hx : ∀ x ∈ A, x.f1.length ≤ 4294967296) (he : A.length = C.length) : ∀ (d i : Nat), i + d = A.length →
  Ev (fun k => slices_EqualFunc_sameState.l0 k C A (A.length : Int) (i : Int)) (decide (A.drop i = C.drop i)) := by
 intro d
 induction d with
 | zero =>
  intro i hi
  rw [List.drop_eq_nil_of_le (by omega), List.drop_eq_nil_of_le (by omega)]
  exact Ev.step (fun k => slices_EqualFunc_sameState.l0.eq_2 ..) (Ev.ifF (by omega) (Ev.now _))
 | succ d ih =>
  intro i hi
  have h1 : i < A.length := by omega
  have h2 : i < C.length := by omega
  refine Ev.step (fun k => slices_EqualFunc_sameState.l0.eq_2 ..) (Ev.ifT (by omega) (Ev.ifT (by omega) (Ev.ifT (by omega) (Ev.ifT (by omega) ?_))))
  rw [rd_st h1, rd_st h2]
  refine Ev.bind (sameState_ev A[i] C[i] (hx _ (List.getElem_mem h1))) ?_
  by_cases e : A[i] = C[i]
  ·
   rw [decide_eq_true e, wrap64_succ i (by omega), show decide (A.drop i = C.drop i) = decide (A.drop (i + 1) = C.drop (i + 1)) from by congr 1; rw [drop_eq h1 h2]; simp [e]]
   exact Ev.ifT rfl (ih (i + 1) (by omega))
  rw [decide_eq_false e, decide_eq_false (fun k => e ((drop_eq h1 h2).1 k).1)]
  exact Ev.ifF Bool.false_ne_true (Ev.now _)
theorem equalF_ev (A C : List Stt) (hA : A.length ≤ 4294967296) (hx : ∀ x ∈ A, x.f1.length ≤ 4294967296) : Ev (fun k => slices_EqualFunc_sameState.f k A C) (decide (A = C)) := by
 unfold slices_EqualFunc_sameState.f
 by_cases he : A.length = C.length
 ·
  have := equalF_out A C hA hx he A.length 0 (by omega)
  rw [List.drop_zero, List.drop_zero] at this
  exact Ev.ifT (by omega) this
 rw [decide_eq_false fun k => he (by rw [k])]
 exact Ev.ifF (by omega) (Ev.now _)
end Mach
end Go.Proofs.YtnnkedeohfbkeaaGreatDoor.L
namespace Go.Proofs.YtnnkedeohfbkeaaGreatDoor.L
open Go.RowKit Go.Proofs.YtnnkedeohfbkeaaGreatDoor.P Go.Proofs.YtnnkedeohfbkeaaGreatDoor.M Go.Proofs.YtnnkedeohfbkeaaGreatDoorW.PrintWords Go.Proofs.YtnnkedeohfbkeaaGreatDoorW.PrintLast Go.Proofs.YtnnkedeohfbkeaaGreatDoorW.PrintMore
theorem areLettersW_eq (l : List UInt8) (hl : l.length ≤ 9223372036854775807) : impl_areLetters.f (B l) = some (l.all letterB) := by
 unfold impl_areLetters.f
 rw [if_pos (by simpa using hl), data_B]
 rfl
theorem isWord_eq (l : List UInt8) : impl_isWord.f (B l) = some (wordL l) := by
 unfold impl_isWord.f wordL
 by_cases h : l.length ≤ 12
 ·
  rw [if_pos (by simp; omega), areLettersW_eq l (by omega)]; simp [h]
 rw [if_neg (by simp; omega)]; simp [h]
end Go.Proofs.YtnnkedeohfbkeaaGreatDoor.L
namespace Go.Proofs.YtnnkedeohfbkeaaGreatDoor.L
open Go.RowKit Go.Proofs.YtnnkedeohfbkeaaGreatDoor.P Go.Proofs.YtnnkedeohfbkeaaGreatDoor.M Go.Proofs.YtnnkedeohfbkeaaGreatDoorW.PrintWords Go.Proofs.YtnnkedeohfbkeaaGreatDoorW.PrintLast Go.Proofs.YtnnkedeohfbkeaaGreatDoorW.PrintMore
namespace Mach
theorem machW_rd {ws : List Txt} {b : List Txt} (hb : b ∈ dL ws) : rd_T72 (machW ws) ((dL ws).idxOf b : Int) = stW ws b := by
 unfold rd_T72 machW
 rw [Int.toNat_natCast, List.getD_eq_getElem?_getD, List.getElem?_map, idx_get hb]
 rfl
theorem machW_lt {ws : List Txt} {b : List Txt} (hb : b ∈ dL ws) : ((dL ws).idxOf b : Int) < ((machW ws).length : Int) := by
 rw [machW_length]
 have := idx_lt hb
 omega
theorem edgeW_ok {ws : List Txt} (h : OkW ws) {b : List Txt} (hb : b ∈ dL ws) {c : UInt8} (hc : c ∈ letsL b) : EdgeOk (machW ws).length (edgeW ws b c) := by
 have h1 := letsL_let hc
 have h2 := machW_lt (dL_succ h hb hc)
 unfold edgeW
 exact ⟨by show (0 : Int) ≤ (c.toNat : Int) - 97; omega, by show (c.toNat : Int) - 97 ≤ 25; omega, by show (0 : Int) ≤ ((dL ws).idxOf (succL b c) : Int); omega, h2⟩
theorem edgeW_ltr {ws b : List Txt} {c : UInt8} (hc : c ∈ letsL b) : ltr (edgeW ws b c) = c := by
 have h1 := letsL_let hc
 unfold ltr edgeW
 show UInt8.ofNat (97 + ((c.toNat : Int) - 97).toNat) = c
 rw [show 97 + ((c.toNat : Int) - 97).toNat = c.toNat from by omega]
 simp
theorem machW_ok {ws : List Txt} (h : OkW ws) : EdgesOk (machW ws) := by
 intro x hx
 obtain ⟨b, hb, rfl⟩ := List.mem_map.1 hx
 rw [stW_eq]
 refine ⟨by rw [List.length_map]; exact Nat.le_trans (letsL_length b) (by omega), fun e he => ?_⟩
 obtain ⟨c, hc, rfl⟩ := List.mem_map.1 he
 exact edgeW_ok h hb hc
def outL (b : List Txt) (so : Txt) (L : List UInt8) : List Txt := L.flatMap fun c => (succL b c).map fun x => so ++ c :: x
theorem out_all {n : Nat} {b : List Txt} (h : Res n b) (so : Txt) : b.map (so ++ ·) = (if [] ∈ b then [so] else []) ++ outL b so (letsL b) := by
 have e := congrArg (List.map (so ++ ·)) (decL h)
 rw [e, List.map_append]
 congr 1
 ·
  by_cases h0 : [] ∈ b
  ·
   rw [if_pos h0, if_pos h0]; simp
  rw [if_neg h0, if_neg h0]; rfl
 unfold outL
 rw [List.map_flatMap]
 congr 1
 funext c
 rw [List.map_map]
 rfl
theorem cnt_pos : ∀ (n : Nat) (b : List Txt), 1 ≤ cntL n b
 | 0, _ => by simp [cntL]
 | n + 1, b => by rw [cntL]; omega
theorem len_cnt : ∀ (n : Nat) (b : List Txt), Res n b → b.length ≤ cntL n b
 | 0, b, h => by
  have e := decL h
  rw [h.zero_lets] at e
  rw [e]
  simp [cntL]
  split <;> simp
 | n + 1, b, h => by
  have e := congrArg List.length (decL h)
  rw [List.length_append, List.length_flatMap] at e
  rw [cntL, e]
  have h1 : (if [] ∈ b then [[]] else ([] : List Txt)).length ≤ 1 := by split <;> simp
  have h2 : ∀ L : List UInt8, (∀ c ∈ L, c ∈ letsL b) → (L.map fun c => ((succL b c).map (c :: ·)).length).sum ≤ (L.map fun c => cntL n (succL b c)).sum := by
   intro L
   induction L with
   | nil => intro _; simp
   | cons c L ih =>
    intro hL
    have h3 := ih fun x hx => hL x (List.mem_cons_of_mem _ hx)
    have h4 := len_cnt n (succL b c) (h.succ c)
    simp only [List.map_cons, List.sum_cons, List.length_map] at h3 ⊢
    omega
  have h3 := h2 (letsL b) fun _ hc => hc
  omega
theorem walkW {ws : List Txt} (h : OkW ws) : ∀ (n : Nat) (b : List Txt) (so : Txt) (gone : Nat), Res n b → b ∈ dL ws → so.length + n ≤ 12 → gone + cntL n b ≤ 481 →
  Ev (fun k => spec_l7Walk.f k (machW ws) ((dL ws).idxOf b : Int) (B so) (gone : Int)) ((b.map (so ++ ·)).map B, ((gone + cntL n b : Nat) : Int)) := by
 intro n
 induction n with
 | zero =>
  intro b so gone hr hb hs hg
  have h1 := machW_lt hb
  have hst := machW_rd hb
  have hl := hr.zero_lets
  have hc : cntL 0 b = 1 := rfl
  have stop : ∀ (out : List Txt), Ev (fun k => spec_l7Walk.l0 k ((dL ws).idxOf b : Int) (B so) ((gone + 1 : Nat) : Int) (out.map B) 0 (machW ws)) (out.map B, ((gone + 1 : Nat) : Int)) := by
   intro out
   refine Ev.step (fun k => spec_l7Walk.l0.eq_2 ..) (Ev.ifT (by omega) (Ev.ifT h1 (Ev.ifF ?_ (Ev.now _))))
   rw [hst, stW_eq, hl]
   simp
  rw [hc, out_all hr so, hl]
  by_cases h0 : [] ∈ b
  ·
   rw [if_pos h0]
   refine Ev.step (fun k => spec_l7Walk.f.eq_2 ..) (Ev.some_bind (Ev.ifT (by omega) (Ev.ifT h1 (Ev.ifT (by rw [hst, stW_eq]; simpa using h0) (Ev.ifT (by simp) (Ev.step (fun k => spec_l7Walk.j0.eq_2 ..) ?_))))))
   rw [wrap64_succ gone (by omega)]
   exact stop [so]
  rw [if_neg h0]
  refine Ev.step (fun k => spec_l7Walk.f.eq_2 ..) (Ev.some_bind (Ev.ifT (by omega) (Ev.ifT h1 (Ev.ifF (by rw [hst, stW_eq]; simpa using h0) (Ev.step (fun k => spec_l7Walk.j0.eq_2 ..) ?_)))))
  rw [wrap64_succ gone (by omega)]
  exact stop []
 | succ n ih =>
  intro b so gone hr hb hs hg
  have h1 := machW_lt hb
  have hst := machW_rd hb
  rw [cntL] at hg ⊢
  have loop : ∀ (L2 L1 : List UInt8) (out : List Txt) (g : Nat), L1 ++ L2 = letsL b → out.length ≤ 1000 → g + (L2.map fun c => cntL n (succL b c)).sum ≤ 481 → out.length ≤ g →
    Ev (fun k => spec_l7Walk.l0 k ((dL ws).idxOf b : Int) (B so) (g : Int) (out.map B) (L1.length : Int) (machW ws)) ((out ++ outL b so L2).map B, ((g + (L2.map fun c => cntL n (succL b c)).sum : Nat) : Int)) := by
   intro L2
   induction L2 with
   | nil =>
    intro L1 out g hL ho hg2 hog
    refine Ev.step (fun k => spec_l7Walk.l0.eq_2 ..) (Ev.ifT (by omega) (Ev.ifT h1 (Ev.ifF ?_ ?_)))
    ·
     rw [hst, stW_eq, ← hL]; simp
    simp only [outL, List.flatMap_nil, List.append_nil, List.map_nil, List.sum_nil, Nat.add_zero]
    exact Ev.now _
   | cons c L2 ihL =>
    intro L1 out g hL ho hg2 hog
    have hc : c ∈ letsL b := by rw [← hL]; simp
    rw [List.map_cons, List.sum_cons] at hg2 ⊢
    have hp := cnt_pos n (succL b c)
    have hrs := hr.succ c
    have hds := dL_succ h hb hc
    have hw := ih (succL b c) (so ++ [c]) g hrs hds (by simp; omega) (by omega)
    have hlc := len_cnt n _ hrs
    have hix : (rd_T88 (stW ws b).f1 (L1.length : Int)) = edgeW ws b c := by
     have hil : L1.length < (stW ws b).f1.length := by rw [stW_eq, List.length_map, ← hL]; simp
     rw [rd_edge hil]
     simp only [stW_eq, ← hL, List.map_append, List.map_cons]
     rw [List.getElem_append_right (by simp)]
     simp
    have hlt : (L1.length : Int) < ((stW ws b).f1.length : Int) := by rw [stW_eq, List.length_map, ← hL]; simp; omega
    have hso : so.length < 12 := by omega
    refine Ev.step (fun k => spec_l7Walk.l0.eq_2 ..) (Ev.ifT (by omega) (Ev.ifT h1 (Ev.ifT (by rw [hst]; exact hlt) (Ev.ifT (by omega) (Ev.ifT (by rw [size_B]; omega) (Ev.ifT (by omega) (Ev.some_bind ?_)))))))
    have hl1 : L1.length < 27 := by
     have h9 := letsL_length b
     rw [← hL] at h9
     simp at h9
     omega
    rw [hst, hix, ltr_str (edgeW_ok h hb hc), edgeW_ltr hc, append_B, wrap64_succ L1.length (by omega)]
    refine Ev.ifT (by rw [size_B, size_B]; simp; omega) (Ev.bind hw (Ev.ifT (by rw [List.length_map, List.length_map, List.length_map]; omega) ?_))
    have hn := ihL (L1 ++ [c]) (out ++ (succL b c).map fun x => so ++ c :: x) (g + cntL n (succL b c)) (by rw [List.append_assoc]; exact hL) (by rw [List.length_append, List.length_map]; omega) (by omega) (by rw [List.length_append, List.length_map]; omega)
    rw [List.length_append, List.length_singleton] at hn
    have e1 : (succL b c).map ((so ++ [c]) ++ ·) = (succL b c).map fun x => so ++ c :: x := List.map_congr_left fun x _ => by rw [List.append_assoc]; rfl
    show Ev (fun k => spec_l7Walk.l0 k ((dL ws).idxOf b : Int) (B so) ((g + cntL n (succL b c) : Nat) : Int) (out.map B ++ ((succL b c).map ((so ++ [c]) ++ ·)).map B) ((L1.length + 1 : Nat) : Int) (machW ws)) _
    rw [e1, ← List.map_append]
    have e2 : outL b so (c :: L2) = ((succL b c).map fun x => so ++ c :: x) ++ outL b so L2 := by unfold outL; rw [List.flatMap_cons]
    rw [e2, ← List.append_assoc, show g + (cntL n (succL b c) + (L2.map fun c => cntL n (succL b c)).sum) = g + cntL n (succL b c) + (L2.map fun c => cntL n (succL b c)).sum from by omega]
    exact hn
  rw [out_all hr so, show gone + (1 + ((letsL b).map fun c => cntL n (succL b c)).sum) = gone + 1 + ((letsL b).map fun c => cntL n (succL b c)).sum from by omega]
  by_cases h0 : [] ∈ b
  ·
   rw [if_pos h0]
   refine Ev.step (fun k => spec_l7Walk.f.eq_2 ..) (Ev.some_bind (Ev.ifT (by omega) (Ev.ifT h1 (Ev.ifT (by rw [hst, stW_eq]; simpa using h0) (Ev.ifT (by simp) (Ev.step (fun k => spec_l7Walk.j0.eq_2 ..) ?_))))))
   rw [wrap64_succ gone (by omega)]
   exact loop (letsL b) [] [so] (gone + 1) rfl (by simp) (by omega) (by simp)
  rw [if_neg h0]
  refine Ev.step (fun k => spec_l7Walk.f.eq_2 ..) (Ev.some_bind (Ev.ifT (by omega) (Ev.ifT h1 (Ev.ifF (by rw [hst, stW_eq]; simpa using h0) (Ev.step (fun k => spec_l7Walk.j0.eq_2 ..) ?_)))))
  rw [wrap64_succ gone (by omega)]
  exact loop (letsL b) [] [] (gone + 1) rfl (by simp) (by omega) (by simp)
end Mach
end Go.Proofs.YtnnkedeohfbkeaaGreatDoor.L
