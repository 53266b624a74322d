/-
  Part 1 of the proof that FnExactDropPressed returns true for every input: the functions that it reaches, each with its contract, and the law.
  Conditions: those of the given statement, no others.
-/
import Derived.Test.YtfhffcefpnkllaaGreatDoorCFnExactDropPressedW0
import Derived.Test.YtfhffcefpnkllaaGreatDoorProg
import Derived.Below
import Derived.Deep.Draws
import Derived.Deep.AppendLies
import Derived.Maps.AppendAt
import Derived.OwnWalk
import Derived.Laws.BytesArg
import Derived.Laws.MakeOwn
import Derived.Laws.OwnMore
import Derived.Deep.OwnRows
import Derived.Tactics
import Derived.Lib.ConvBytes
import Derived.Laws.Slices
import Derived.WalkKit
import Derived.KernelRfl
import Derived.RowKit3
import Derived.Deep.LoopGhost
import Derived.Deep.QuietTactic
import Derived.BigQuiet
import Derived.WideLaws
import Derived.Deep.DeepCutAuto
import Derived.Deep.CutBlock
import Derived.Deep.RegionHeld3
import Derived.Laws.Rows
import Derived.Lib.AppendStr
import Derived.ArgAppend
import Derived.Laws.IdiomCopy
import Derived.OrdersHeld
import Derived.Laws.BitsLemmas
import Derived.RowKit
set_option linter.unusedVariables false
set_option linter.unusedSimpArgs false
set_option maxHeartbeats 8000000
set_option maxRecDepth 100000
namespace Go.Proofs.YtfhffcefpnkllaaGreatDoor.P
open Go.RowKit Go.Proofs.YtfhffcefpnkllaaGreatDoorW.PrintWords Go.Proofs.YtfhffcefpnkllaaGreatDoorW.PrintLast Go.Proofs.YtfhffcefpnkllaaGreatDoorW.PrintMore
attribute [local go_sem] max2_int min2_int max_two min_two max_three min_three max_four min_four
def errW : Option Int → Value
  | none => .nilIface
  | some c => .iface 0 (.int .i64 c)
theorem errW_none : errW none = .nilIface := rfl
theorem errW_some (c : Int) : errW (some c) = .iface 0 (.int .i64 c) := rfl
theorem info3 : (Tryz.prog.info? 3).map (fun i => (i.zero, i.size, i.bytes)) = some (some (.int .i64 0), 1, 8) := by kernel_rfl
theorem info5 : (Tryz.prog.info? 5).map (fun i => (i.zero, i.size, i.bytes)) = some (some (.int .u8 0), 1, 1) := by kernel_rfl
theorem info9 : (Tryz.prog.info? 9).map (fun i => (i.zero, i.size, i.bytes)) = some (some (.string ⟨#[]⟩), 1, 16) := by kernel_rfl
theorem info60 : (Tryz.prog.info? 60).map (fun i => (i.zero, i.size, i.bytes)) = some (some (.agg #[(.string ⟨#[]⟩), (.int .i64 0), (.bool false)]), 3, 32) := by kernel_rfl
theorem info76 : (Tryz.prog.info? 76).map (fun i => (i.zero, i.size, i.bytes)) = some (some (.agg #[(.int .i64 0), (.int .i64 0), (.bool false)]), 3, 24) := by kernel_rfl
structure S71 where
  f0 : ByteArray
  f1 : Int
  f2 : Bool
def z71 : S71 := ⟨(⟨#[]⟩ : ByteArray), (0 : Int), false⟩
def k71 : Kd S71 := Kd.iso (Kd.pair Kd.string (Kd.pair (Kd.int .i64) Kd.bool)) (fun x : S71 => (x.f0, x.f1, x.f2))
theorem k71_open {w : World} {x : S71} {cs : List Value} (h : k71.K w x cs) : cs = [.string x.f0, .int .i64 x.f1, .bool x.f2] := by
  obtain ⟨_, _, rfl, rfl, ⟨_, _, rfl, rfl, rfl⟩⟩ := h
  exact rfl
theorem k71_openM {w : World} {base : Nat} {ok : Nat → Prop} {x : S71} {cs : List Value} (h : k71.M w base ok x cs) : cs = [.string x.f0, .int .i64 x.f1, .bool x.f2] := by
  obtain ⟨_, _, rfl, rfl, ⟨_, _, rfl, rfl, rfl⟩⟩ := h
  exact rfl
theorem k71_mk (w : World) (x : S71)  : k71.K w x [.string x.f0, .int .i64 x.f1, .bool x.f2] := ⟨[.string x.f0], [.int .i64 x.f1, .bool x.f2], rfl, rfl, ⟨[.int .i64 x.f1], [.bool x.f2], rfl, rfl, rfl⟩⟩
theorem k71_mkM (w : World) (base : Nat) (ok : Nat → Prop) (x : S71)  : k71.M w base ok x [.string x.f0, .int .i64 x.f1, .bool x.f2] := ⟨[.string x.f0], [.int .i64 x.f1, .bool x.f2], rfl, rfl, ⟨[.int .i64 x.f1], [.bool x.f2], rfl, rfl, rfl⟩⟩
def rd_T71 (xs : List S71) (i : Int) : S71 := xs.getD i.toNat z71
theorem at_T71 {w : World} {A : Option Addr} {n : Nat} {xs : List S71} (h : Kd.C k71 w A n xs) (i : Int) (h0 : 0 ≤ i) (h1 : i < n) : ∃ ad , A = some ad ∧ w.cell? (ad.add (i.toNat * 3)) = some (.string (rd_T71 xs i).f0) ∧ w.cell? ⟨(ad.add (i.toNat * 3)).block, (ad.add (i.toNat * 3)).off + 1, none⟩ = some (.int .i64 (rd_T71 xs i).f1) ∧ w.cell? ⟨(ad.add (i.toNat * 3)).block, (ad.add (i.toNat * 3)).off + 2, none⟩ = some (.bool (rd_T71 xs i).f2) := by
  obtain ⟨ad, c, e, _, hK, hc0⟩ := Kd.C_get h z71 i h0 h1
  have hc : ∀ j u, c[j]? = some u → w.cell? (ad.add (i.toNat * 3 + j)) = some u := hc0
  obtain rfl := k71_open hK
  exact ⟨ad, e, hc 0 _ rfl, by rw [← add_field _ _ 1 (by omega)]; exact hc 1 _ rfl, by rw [← add_field _ _ 2 (by omega)]; exact hc 2 _ rfl⟩
structure S60 where
  f0 : ByteArray
  f1 : Int
  f2 : Bool
def z60 : S60 := ⟨(⟨#[]⟩ : ByteArray), (0 : Int), false⟩
def k60 : Kd S60 := Kd.iso (Kd.pair Kd.string (Kd.pair (Kd.int .i64) Kd.bool)) (fun x : S60 => (x.f0, x.f1, x.f2))
theorem k60_open {w : World} {x : S60} {cs : List Value} (h : k60.K w x cs) : cs = [.string x.f0, .int .i64 x.f1, .bool x.f2] := by
  obtain ⟨_, _, rfl, rfl, ⟨_, _, rfl, rfl, rfl⟩⟩ := h
  exact rfl
theorem k60_openM {w : World} {base : Nat} {ok : Nat → Prop} {x : S60} {cs : List Value} (h : k60.M w base ok x cs) : cs = [.string x.f0, .int .i64 x.f1, .bool x.f2] := by
  obtain ⟨_, _, rfl, rfl, ⟨_, _, rfl, rfl, rfl⟩⟩ := h
  exact rfl
theorem k60_mk (w : World) (x : S60)  : k60.K w x [.string x.f0, .int .i64 x.f1, .bool x.f2] := ⟨[.string x.f0], [.int .i64 x.f1, .bool x.f2], rfl, rfl, ⟨[.int .i64 x.f1], [.bool x.f2], rfl, rfl, rfl⟩⟩
theorem k60_mkM (w : World) (base : Nat) (ok : Nat → Prop) (x : S60)  : k60.M w base ok x [.string x.f0, .int .i64 x.f1, .bool x.f2] := ⟨[.string x.f0], [.int .i64 x.f1, .bool x.f2], rfl, rfl, ⟨[.int .i64 x.f1], [.bool x.f2], rfl, rfl, rfl⟩⟩
def rd_T60 (xs : List S60) (i : Int) : S60 := xs.getD i.toNat z60
theorem at_T60 {w : World} {A : Option Addr} {n : Nat} {xs : List S60} (h : Kd.C k60 w A n xs) (i : Int) (h0 : 0 ≤ i) (h1 : i < n) : ∃ ad , A = some ad ∧ w.cell? (ad.add (i.toNat * 3)) = some (.string (rd_T60 xs i).f0) ∧ w.cell? ⟨(ad.add (i.toNat * 3)).block, (ad.add (i.toNat * 3)).off + 1, none⟩ = some (.int .i64 (rd_T60 xs i).f1) ∧ w.cell? ⟨(ad.add (i.toNat * 3)).block, (ad.add (i.toNat * 3)).off + 2, none⟩ = some (.bool (rd_T60 xs i).f2) := by
  obtain ⟨ad, c, e, _, hK, hc0⟩ := Kd.C_get h z60 i h0 h1
  have hc : ∀ j u, c[j]? = some u → w.cell? (ad.add (i.toNat * 3 + j)) = some u := hc0
  obtain rfl := k60_open hK
  exact ⟨ad, e, hc 0 _ rfl, by rw [← add_field _ _ 1 (by omega)]; exact hc 1 _ rfl, by rw [← add_field _ _ 2 (by omega)]; exact hc 2 _ rfl⟩
structure S76 where
  f0 : Int
  f1 : Int
  f2 : Bool
def z76 : S76 := ⟨(0 : Int), (0 : Int), false⟩
def k76 : Kd S76 := Kd.iso (Kd.pair (Kd.int .i64) (Kd.pair (Kd.int .i64) Kd.bool)) (fun x : S76 => (x.f0, x.f1, x.f2))
theorem k76_open {w : World} {x : S76} {cs : List Value} (h : k76.K w x cs) : cs = [.int .i64 x.f0, .int .i64 x.f1, .bool x.f2] := by
  obtain ⟨_, _, rfl, rfl, ⟨_, _, rfl, rfl, rfl⟩⟩ := h
  exact rfl
theorem k76_openM {w : World} {base : Nat} {ok : Nat → Prop} {x : S76} {cs : List Value} (h : k76.M w base ok x cs) : cs = [.int .i64 x.f0, .int .i64 x.f1, .bool x.f2] := by
  obtain ⟨_, _, rfl, rfl, ⟨_, _, rfl, rfl, rfl⟩⟩ := h
  exact rfl
theorem k76_mk (w : World) (x : S76)  : k76.K w x [.int .i64 x.f0, .int .i64 x.f1, .bool x.f2] := ⟨[.int .i64 x.f0], [.int .i64 x.f1, .bool x.f2], rfl, rfl, ⟨[.int .i64 x.f1], [.bool x.f2], rfl, rfl, rfl⟩⟩
theorem k76_mkM (w : World) (base : Nat) (ok : Nat → Prop) (x : S76)  : k76.M w base ok x [.int .i64 x.f0, .int .i64 x.f1, .bool x.f2] := ⟨[.int .i64 x.f0], [.int .i64 x.f1, .bool x.f2], rfl, rfl, ⟨[.int .i64 x.f1], [.bool x.f2], rfl, rfl, rfl⟩⟩
def rd_T76 (xs : List S76) (i : Int) : S76 := xs.getD i.toNat z76
theorem at_T76 {w : World} {A : Option Addr} {n : Nat} {xs : List S76} (h : Kd.C k76 w A n xs) (i : Int) (h0 : 0 ≤ i) (h1 : i < n) : ∃ ad , A = some ad ∧ w.cell? (ad.add (i.toNat * 3)) = some (.int .i64 (rd_T76 xs i).f0) ∧ w.cell? ⟨(ad.add (i.toNat * 3)).block, (ad.add (i.toNat * 3)).off + 1, none⟩ = some (.int .i64 (rd_T76 xs i).f1) ∧ w.cell? ⟨(ad.add (i.toNat * 3)).block, (ad.add (i.toNat * 3)).off + 2, none⟩ = some (.bool (rd_T76 xs i).f2) := by
  obtain ⟨ad, c, e, _, hK, hc0⟩ := Kd.C_get h z76 i h0 h1
  have hc : ∀ j u, c[j]? = some u → w.cell? (ad.add (i.toNat * 3 + j)) = some u := hc0
  obtain rfl := k76_open hK
  exact ⟨ad, e, hc 0 _ rfl, by rw [← add_field _ _ 1 (by omega)]; exact hc 1 _ rfl, by rw [← add_field _ _ 2 (by omega)]; exact hc 2 _ rfl⟩
def rd_L7 (xs : List (List ByteArray)) (i : Int) : (List ByteArray) := xs.getD i.toNat ([] : List ByteArray)
theorem at_L7 {w : World} {A : Option Addr} {n : Nat} {xs : List (List ByteArray)} (h : Kd.C (Kd.slice 9 Kd.string) w A n xs) (i : Int) (h0 : 0 ≤ i) (h1 : i < n) : ∃ ad A0 c0, A = some ad ∧ w.cell? (ad.add i.toNat) = some (.slice A0 (rd_L7 xs i).length c0) ∧ (rd_L7 xs i).length ≤ c0 ∧ Kd.string.C w A0 (rd_L7 xs i).length (rd_L7 xs i) := by
  obtain ⟨ad, c, e, _, hK, hc0⟩ := Kd.C_get h ([] : List ByteArray) i h0 h1
  have hc : ∀ j u, c[j]? = some u → w.cell? (ad.add (i.toNat * 1 + j)) = some u := hc0
  obtain ⟨A0, c0, rfl, l0, g0⟩ := hK
  exact ⟨ad, A0, c0, e, by have hq := hc 0 _ rfl; rwa [Nat.mul_one, Nat.add_zero] at hq, l0, g0⟩
def rd_L8 (xs : List (List S76)) (i : Int) : (List S76) := xs.getD i.toNat ([] : List S76)
theorem at_L8 {w : World} {A : Option Addr} {n : Nat} {xs : List (List S76)} (h : Kd.C (Kd.slice 76 k76) w A n xs) (i : Int) (h0 : 0 ≤ i) (h1 : i < n) : ∃ ad A0 c0, A = some ad ∧ w.cell? (ad.add i.toNat) = some (.slice A0 (rd_L8 xs i).length c0) ∧ (rd_L8 xs i).length ≤ c0 ∧ k76.C w A0 (rd_L8 xs i).length (rd_L8 xs i) := by
  obtain ⟨ad, c, e, _, hK, hc0⟩ := Kd.C_get h ([] : List S76) i h0 h1
  have hc : ∀ j u, c[j]? = some u → w.cell? (ad.add (i.toNat * 1 + j)) = some u := hc0
  obtain ⟨A0, c0, rfl, l0, g0⟩ := hK
  exact ⟨ad, A0, c0, e, by have hq := hc 0 _ rfl; rwa [Nat.mul_one, Nat.add_zero] at hq, l0, g0⟩
structure S36 where
  f0 : (List S76)
def z36 : S36 := ⟨([] : List S76)⟩
def k36 : Kd S36 := Kd.iso (Kd.slice 76 k76) (fun x : S36 => x.f0)
theorem k36_open {w : World} {x : S36} {cs : List Value} (h : k36.K w x cs) : ∃ A0 c0, cs = [.slice A0 x.f0.length c0] ∧ x.f0.length ≤ c0 ∧ k76.C w A0 x.f0.length x.f0 := by
  obtain ⟨A0, c0, rfl, l0, g0⟩ := h
  exact ⟨A0, c0, rfl, l0, g0⟩
theorem k36_openM {w : World} {base : Nat} {ok : Nat → Prop} {x : S36} {cs : List Value} (h : k36.M w base ok x cs) : ∃ v0, cs = [v0] ∧ k76.R 76 w base ok v0 x.f0 := by
  obtain ⟨v0, rfl, g0⟩ := h
  exact ⟨v0, rfl, g0⟩
theorem k36_mk (w : World) (x : S36) {A0 : Option Addr} {c0 : Nat} (l0 : x.f0.length ≤ c0) (g0 : k76.C w A0 x.f0.length x.f0) : k36.K w x [.slice A0 x.f0.length c0] := ⟨A0, c0, rfl, l0, g0⟩
theorem k36_mkM (w : World) (base : Nat) (ok : Nat → Prop) (x : S36) {v0 : Value} (g0 : k76.R 76 w base ok v0 x.f0) : k36.M w base ok x [v0] := ⟨v0, rfl, g0⟩
def rd_T36 (xs : List S36) (i : Int) : S36 := xs.getD i.toNat z36
theorem at_T36 {w : World} {A : Option Addr} {n : Nat} {xs : List S36} (h : Kd.C k36 w A n xs) (i : Int) (h0 : 0 ≤ i) (h1 : i < n) : ∃ ad A0 c0, A = some ad ∧ w.cell? (ad.add i.toNat) = some (.slice A0 (rd_T36 xs i).f0.length c0) ∧ (rd_T36 xs i).f0.length ≤ c0 ∧ k76.C w A0 (rd_T36 xs i).f0.length (rd_T36 xs i).f0 := by
  obtain ⟨ad, c, e, _, hK, hc0⟩ := Kd.C_get h z36 i h0 h1
  have hc : ∀ j u, c[j]? = some u → w.cell? (ad.add (i.toNat * 1 + j)) = some u := hc0
  obtain ⟨A0, c0, rfl, l0, g0⟩ := k36_open hK
  exact ⟨ad, A0, c0, e, by have hq := hc 0 _ rfl; rwa [Nat.mul_one, Nat.add_zero] at hq, l0, g0⟩
end Go.Proofs.YtfhffcefpnkllaaGreatDoor.P
namespace Go.Proofs.YtfhffcefpnkllaaGreatDoor.P
open Go.RowKit Go.Proofs.YtfhffcefpnkllaaGreatDoorW.PrintWords Go.Proofs.YtfhffcefpnkllaaGreatDoorW.PrintLast Go.Proofs.YtfhffcefpnkllaaGreatDoorW.PrintMore
open Go.Proofs.YtfhffcefpnkllaaGreatDoorW.PrintWords renaming blk_frozen → bF_, blk_cell → bC_, below_set → bS_, blk_below → bB_, below_step → bT_, pw_below_drewN → bN_, below_size → bZ_, below_drew1 → bD_, below_alloc → bA_, blk_far → bR_, gate_callee → gC_, gate_dst → gD_, box_event → bE_, blk_drew → b1_, blk_put → bP_, blk_drewN → b2_, blk_alloc → b3_, blk_lt → bL_, cell_far → cF_
open Go.Proofs.YtfhffcefpnkllaaGreatDoorW.PrintLast renaming any_of → aO_, i64_w → i6_, i32_w → i3_, take_ofW → tW_
open Go.Proofs.YtfhffcefpnkllaaGreatDoorW.PrintWords.Kd renaming R_below → kB_, R_mono → kM_, R_far → kF_, R_reads' → kR_, R_types → kT_, R_slice → kS_, R_celln → kC_, R_alloc → k1_, R_drewN → k2_, R_drew → k3_, C_below → k4_, R_lower → k5_, R_ne → k6_, own_blk → k7_
open Go.Proofs.YtfhffcefpnkllaaGreatDoorW.PrintWords.LeO renaming none → l0_, bind → l1_, ite → l2_, refl → l3_
open World renaming block_lt_of_cell? → wB_
open _root_.Option renaming bind_eq_some_iff → oB_
open _root_.ByteArray renaming empty → eB_
open List renaming setIfInBounds_toArray → sA_, set_cons_zero → sB_, set_cons_succ → sC_, map_toArray → sD_, map_cons → sE_, map_nil → sF_, length_drop → sG_, length_take → sH_
open Bool renaming true → ty, false → fy
open Aside0 renaming mk → aM_
attribute [local go_sem] max2_int min2_int max_two min_two max_three min_three max_four min_four
def wF41.f (a0_0 : ByteArray) (a0_1 : Int) (a0_2 : Bool) : Option (ByteArray × Int × Bool) := some (a0_0, a0_1, a0_2)
theorem wF41.calls (a0_0 : ByteArray) (a0_1 : Int) (a0_2 : Bool) (r1 : ByteArray) (r2 : Int) (r3 : Bool) (w : World) (h : wF41.f a0_0 a0_1 a0_2 = some (r1, r2, r3)) :
  Calls Tryz.prog 60 #[.agg #[.string a0_0, .int .i64 a0_1, .bool a0_2]] w fun e w' => e = .returned (.agg #[.string r1, .int .i64 r2, .bool r3]) ∧ Below w.heap.size w w' := by
 have hu71 := Tryz.underlying71
 have hu60 := Tryz.underlying60
 have HB := aM_ (Below.refl w.heap.size w)
 have H : (some (a0_0, a0_1, a0_2)) = some (r1, r2, r3) := h
 clear h
 simp only [Option.some.injEq, Prod.mk.injEq] at H
 obtain ⟨rfl, rfl, rfl⟩ := H
 go_enter Tryz.func60, Tryz.ntmps60
 go_wp2_with (first | (refine bx_ 1 #[.string a0_0, .int .i64 a0_1, .bool a0_2] 71 ?_; intro gb289 hg w2 hbox hb; have BK289 := aM_ (hbox); have GW289 := gw_ hg HB; replace HB := b4_ HB hb; clear hb hbox hg) | (refine bx_ 2 #[.string (⟨#[]⟩ : ByteArray), .int .i64 0, .bool false] 60 ?_; intro gb290 hg w3 hbox hb; have BK290 := aM_ (hbox); have GW290 := gw_ hg HB; replace HB := b4_ HB hb; have NB289_290 := nb_ hg BK289; have NB290_289 := ns_ NB289_290; replace BK289 := b5_ BK289 hb; clear hb hbox hg) | (refine bx_ 3 #[.string (⟨#[]⟩ : ByteArray), .int .i64 0, .bool false] 60 ?_; intro gb291 hg w4 hbox hb; have BK291 := aM_ (hbox); have GW291 := gw_ hg HB; replace HB := b4_ HB hb; have NB289_291 := nb_ hg BK289; have NB291_289 := ns_ NB289_291; replace BK289 := b5_ BK289 hb; have NB290_291 := aM_ ((by rw [hg]; exact Nat.ne_of_lt (bL_ (g := gb290) (o := .cells #[.string (⟨#[]⟩ : ByteArray), .int .i64 0, .bool false] 60 (0, 0)) BK290.out) : gb290 ≠ gb291)); have NB291_290 := ns_ NB290_291; replace BK290 := aM_ (bB_ (g := gb290) (o := .cells #[.string (⟨#[]⟩ : ByteArray), .int .i64 0, .bool false] 60 (0, 0)) BK290.out hb); clear hb hbox hg; have hnb5 := NB289_290.out; have hnc5 := NB290_289.out; have hnb6 := NB289_291.out; have hnc6 := NB291_289.out; have hcz7_0 := c0_ BK289; have hcz7_1 := c1_ BK289; have hcz7_2 := c2_ BK289; have hfz7_0 := bF_ BK289.out 0; have hfz7_1 := bF_ BK289.out 1; have hfz7_2 := bF_ BK289.out 2; have hnb8 := NB291_290.out; have hnc8 := NB290_291.out; have hcz9_0 := c0_ BK291; have hcz9_1 := c1_ BK291; have hcz9_2 := c2_ BK291; have hfz9_0 := bF_ BK291.out 0; have hfz9_1 := bF_ BK291.out 1; have hfz9_2 := bF_ BK291.out 2; have hcz10_0 := c0_ BK290; have hcz10_1 := c1_ BK290; have hcz10_2 := c2_ BK290; have hfz10_0 := bF_ BK290.out 0; have hfz10_1 := bF_ BK290.out 1; have hfz10_2 := bF_ BK290.out 2))
 refine bodyPost_ret (results_cell_row rfl _ _ gb290 60 #[.string a0_0, .int .i64 a0_1, .bool a0_2] (0, 0) _ rfl (by refine bP_ (cs := #[.string a0_0, .int .i64 a0_1, .bool false]) ?_ 2 _ rfl; refine bP_ (cs := #[.string a0_0, .int .i64 0, .bool false]) ?_ 1 _ rfl; refine bP_ (cs := #[.string (⟨#[]⟩ : ByteArray), .int .i64 0, .bool false]) ?_ 0 _ rfl; exact br_ NB290_291.out (br_ NB290_291.out (br_ NB290_291.out (BK290.out)))) Tryz.underlying60 rfl (by kernel_rfl)) rfl ?_
 exact ⟨by rfl, by repeat with_reducible first | exact HB.out | apply bA_ | apply bN_ | apply bD_ | refine bS_ ?_ (Aside0.out ‹_›)⟩
def wF42.l0 : Nat → List (S71) → List (S60) → Int → Option ((List (S60)))
 | 0, _, _, _ => none
 | k + 1, x0, x3, x4 => if x4 < (x0.length : Int) then (if 0 ≤ x4 then ((wF41.f ((rd_T71 x0 x4).f0) ((rd_T71 x0 x4).f1) ((rd_T71 x0 x4).f2)).bind fun bt296 => (if x4 < (x3.length : Int) then (wF42.l0 k x0 (x3.set (x4 : Int).toNat (⟨bt296.1, bt296.2.1, bt296.2.2⟩ : S60)) (wrap64 (x4 + 1))) else (none))) else (none)) else (some x3)
def wF42.f (k : Nat) (l0 : List (S71)) : Option ((List (S60))) := if 0 ≤ (l0.length : Int) then (if ((l0.length : Int) : Int).toNat ≤ 8796093022208 then (wF42.l0 k l0 (List.replicate ((l0.length : Int) : Int).toNat z60) 0) else (none)) else (none)
theorem wF42.mono_l : ∀ k, (∀ y0 y1 y2, LeO (wF42.l0 k y0 y1 y2) (wF42.l0 (k + 1) y0 y1 y2))
 | 0 => fun _ _ _ r h => by simp [wF42.l0] at h
 | k + 1 => by
  have ih0 := wF42.mono_l k
  intro y0 y1 y2
  unfold wF42.l0
  repeat' with_reducible first | exact ih0 _ _ _ | exact l3_ _ | exact l0_ _ | refine l2_ ?_ ?_ | refine l1_ ?_ (fun _ => ?_)
theorem wF42.mono : ∀ a0 k, LeO (wF42.f k a0) (wF42.f (k + 1) a0) := by
 intro a0 k
 have ih0 := wF42.mono_l k
 unfold wF42.f
 repeat' with_reducible first | exact ih0 _ _ _ | exact l3_ _ | exact l0_ _ | refine l2_ ?_ ?_ | refine l1_ ?_ (fun _ => ?_)
theorem wF42.calls (k : Nat) (A0 : Option Addr) (c0 : Nat) (l0 : List (S71)) (r : List (S60)) (w : World) (hr0 : Kd.C k71 w A0 l0.length l0) (hc0 : l0.length ≤ c0) (h : wF42.f k l0 = some r) :
  Calls Tryz.prog 32 #[.slice A0 l0.length c0] w fun e w' => ∃ v0_ : Value, e = .returned (v0_) ∧ Kd.R k60 60 w' w.heap.size (fun _ => True) v0_ r ∧ Below w.heap.size w w' := by
 have hu71 := Tryz.underlying71
 have hu60 := Tryz.underlying60
 have HR0 := aM_ hr0
 have HC0 := aM_ hc0
 clear hr0 hc0
 have HB := aM_ (Below.refl w.heap.size w)
 have H : (if 0 ≤ (l0.length : Int) then (if ((l0.length : Int) : Int).toNat ≤ 8796093022208 then (wF42.l0 k l0 (List.replicate ((l0.length : Int) : Int).toNat z60) 0) else (none)) else (none)) = some r := h
 clear h
 by_cases c2 : 0 ≤ (l0.length : Int)
 rotate_left
 ·
  rw [if_neg c2] at H
  exact absurd H (by simp)
 rw [if_pos c2] at H
 have c2b0 := eq_true c2
 have c2b1 := dT_ c2
 clear c2
 by_cases c3 : ((l0.length : Int) : Int).toNat ≤ 8796093022208
 rotate_left
 ·
  rw [if_neg c3] at H
  exact absurd H (by simp)
 rw [if_pos c3] at H
 have c3b0 := eq_true c3
 have c3b1 := dT_ c3
 clear c3
 obtain ⟨y292, hy292⟩ : ∃ y_ : List (S60), y_ = (List.replicate ((l0.length : Int) : Int).toNat z60) := ⟨_, rfl⟩
 replace H : (wF42.l0 k l0 y292 0) = some r := by (try rw [hy292]); first | with_reducible exact H | with_reducible exact oS_ H | exact H
 have Ny292 := aM_ hy292
 clear hy292
 have H' := aM_ H
 clear H
 go_enter Tryz.func32, Tryz.ntmps32
 go_wp2_with (first | ((with_reducible refine gD_ (N := 7) rfl ?_); refine Kd.R_make k60 _ 60 rfl (N := 7) rfl 28 _ _ rfl (l0.length : Int) rfl rfl Tryz.underlying28 (.agg #[(.string ⟨#[]⟩), (.int .i64 0), (.bool false)]) 32 info60 rfl (by decide) (by omega) z60 (ok := fun _ => True) (okp := fun _ => True) (k60_mkM _ _ _ z60 ) (fun _ hk => hk) trivial (oD_ ‹_›) (Nat.le_trans (Nat.mul_le_mul_right _ (oD_ ‹_› : (l0.length : Int).toNat ≤ 8796093022208)) (by omega)) (Below.refl _ _) (Nat.le_refl _) ?_; intro v293 w4 ho5 hb hg_ hnew_; clear hg_ hnew_; (rw [← Ny292.out] at ho5); have HO294 := aM_ (k5_ ho5 (bZ_ HB.out)); replace HB := b4_ HB hb; clear hb ho5))
 go_loopg [4] k (fun kq v4 w' => ∃ (x3_1 : List (S60)) (x4_1 : Int), v4 = .int .i64 x4_1 ∧ Aside0 (wF42.l0 kq l0 x3_1 x4_1 = some r) ∧ Aside0 (kq ≤ k) ∧ Aside0 (Kd.R k60 60 w' w.heap.size (fun _ => True) v293 x3_1) ∧ Aside0 (Below w.heap.size w w'))
 case atStart => exact ⟨(y292), (0), (by rfl), H', ⟨Nat.le_refl _⟩, ⟨HO294.out⟩, ⟨HB.out⟩⟩
 clear H'
 try clear c2b0
 try clear c2b1
 try clear p2
 try clear c3b0
 try clear c3b1
 obtain ⟨x3_1, x4_1, rfl, HA, HK1, HO_3, HB⟩ := hrel
 cases gk with
 | zero => exact absurd HA.out (by simp [wF42.l0])
 | succ k1 =>
  have H := HA.out
  clear HA
  simp only [wF42.l0] at H
  by_cases c6 : x4_1 < (l0.length : Int)
  rotate_left
  ·
   rw [if_neg c6] at H
   have c6b0 := dF_ c6
   clear c6
   obtain rfl := Option.some.inj H
   go_wp2
   go_ret
   exact ⟨_, by rfl, by exact HO_3.out, by exact HB.out⟩
  rw [if_pos c6] at H
  have c6b0 := dT_ c6
  clear c6
  by_cases c7 : 0 ≤ x4_1
  rotate_left
  ·
   rw [if_neg c7] at H
   exact absurd H (by simp)
  rw [if_pos c7] at H
  have c7b0 := dT_ c7
  clear c7
  replace H := oB_.mp H
  obtain ⟨⟨t296, t297, t298⟩, A80, H⟩ := H
  try dsimp only at H
  have A8 := aM_ A80
  clear A80
  by_cases c9 : x4_1 < (x3_1.length : Int)
  rotate_left
  ·
   rw [if_neg c9] at H
   exact absurd H (by simp)
  rw [if_pos c9] at H
  have c9b0 := dT_ c9
  clear c9
  obtain ⟨y299, hy299⟩ : ∃ y_ : List (S60), y_ = (x3_1.set (x4_1 : Int).toNat (⟨t296, t297, t298⟩ : S60)) := ⟨_, rfl⟩
  replace H : (wF42.l0 k1 l0 y299 (wrap64 (x4_1 + 1))) = some r := by (try rw [hy299]); first | with_reducible exact H | with_reducible exact oS_ H | exact H
  have Ny299 := aM_ hy299
  clear hy299
  have H' := aM_ H
  clear H
  have p295 : 0 ≤ (x4_1 : Int) := oD_ ‹_›
  have q295 : x4_1 < (l0.length : Int) := oD_ ‹_›
  obtain ⟨ad295, e295, hx295_0, hx295_1, hx295_2⟩ := at_T71 HR0.out x4_1 p295 q295
  cases e295
  replace hx295_0 := cb_ HB hx295_0
  replace hx295_1 := cb_ HB hx295_1
  replace hx295_2 := cb_ HB hx295_2
  replace p295 := eq_true p295
  replace q295 := eq_true q295
  go_wp2_with (first | (refine gs_ 20 Tryz.func60 #[.agg #[.string ((rd_T71 l0 x4_1).f0), .int .i64 ((rd_T71 l0 x4_1).f1), .bool ((rd_T71 l0 x4_1).f2)]] ?_; (with_reducible refine (wF41.calls ((rd_T71 l0 x4_1).f0) ((rd_T71 l0 x4_1).f1) ((rd_T71 l0 x4_1).f2) t296 t297 t298 _ A8.out).mono ?_); rintro e w11 ⟨rfl, hb⟩; refine ⟨_, rfl, ?_⟩; replace HO_3 := k9_ HO_3 hb; replace HB := b4_ HB hb; (try clear hb); have p10 : 0 ≤ (x4_1 : Int) := oD_ ‹_›; have q10 : (x4_1 : Int) < ((x3_1.length : Int) : Int) := oD_ ‹_›; obtain ⟨go10, co10, eo10, gb10, gl10, cl10, HG10⟩ := Kd.R_form HO_3.out (by omega); (cases eo10); have GB10 := aM_ gb10; have GG10 := aM_ HG10; clear gb10 gl10 HG10; obtain ⟨ce10, hcl10, hM10, hcc10, hfr10⟩ := Kd.R_elem HO_3.out z60 (x4_1 : Int) p10 q10; obtain rfl := k60_openM hM10; have hx10_0 : w11.cell? ⟨go10, (x4_1 : Int).toNat * 3, none⟩ = some (.string ((rd_T60 x3_1 x4_1).f0)) := hcc10 0 _ rfl; have hx10_1 : w11.cell? ⟨go10, (x4_1 : Int).toNat * 3 + 1, none⟩ = some (.int .i64 ((rd_T60 x3_1 x4_1).f1)) := hcc10 1 _ rfl; have hx10_2 : w11.cell? ⟨go10, (x4_1 : Int).toNat * 3 + 2, none⟩ = some (.bool ((rd_T60 x3_1 x4_1).f2)) := hcc10 2 _ rfl; have hf10_0 : w11.frozen? ⟨go10, (x4_1 : Int).toNat * 3, none⟩ = false := hfr10 0; have hf10_1 : w11.frozen? ⟨go10, (x4_1 : Int).toNat * 3 + 1, none⟩ = false := hfr10 1; have hf10_2 : w11.frozen? ⟨go10, (x4_1 : Int).toNat * 3 + 2, none⟩ = false := hfr10 2; clear hcl10 hcc10 hfr10 hM10; replace p10 := eq_true p10; replace q10 := eq_true q10; have HX12 := aM_ (show Kd.R k60 60 w11 w.heap.size (fun _ => True) (.slice (some ⟨go10, 0, none⟩) x3_1.length co10) x3_1 from HO_3.out); obtain ⟨ce12, hcl12, hM12, hcc12, hfr12⟩ := Kd.R_elem HX12.out z60 (x4_1 : Int) (oD_ ‹_›) (by have h_ : (x4_1 : Int) < ((x3_1.length : Int) : Int) := oD_ ‹_›; exact h_); obtain rfl := k60_openM hM12; have HP12 := Kd.R_seg HX12.out (x4_1 : Int) (oD_ ‹_›) (by have h_ : (x4_1 : Int) < ((x3_1.length : Int) : Int) := oD_ ‹_›; exact h_) (seg := [.string t296, .int .i64 t297, .bool t298]) (j := 0) hcl12 hcc12 (show 3 ≤ 3 from by decide) (x' := (⟨t296, t297, t298⟩ : S60)) (k60_mkM _ _ _ (⟨t296, t297, t298⟩ : S60) ) (fun _ hk => hk); have hx12_0 := hcc12 0 _ rfl; (try simp only [show (k60).sz = 3 from rfl, Nat.mul_one, Nat.add_zero] at hx12_0); have hf12_0 := hfr12 0; (try simp only [show (k60).sz = 3 from rfl, Nat.mul_one, Nat.add_zero] at hf12_0); have hx12_1 := hcc12 1 _ rfl; (try simp only [show (k60).sz = 3 from rfl, Nat.mul_one, Nat.add_zero] at hx12_1); have hf12_1 := hfr12 1; (try simp only [show (k60).sz = 3 from rfl, Nat.mul_one, Nat.add_zero] at hf12_1); have hx12_2 := hcc12 2 _ rfl; (try simp only [show (k60).sz = 3 from rfl, Nat.mul_one, Nat.add_zero] at hx12_2); have hf12_2 := hfr12 2; (try simp only [show (k60).sz = 3 from rfl, Nat.mul_one, Nat.add_zero] at hf12_2); clear hcl12 hcc12 hfr12 hM12) | ((with_reducible refine gate_store (t := 60) (p := 21) rfl ?_); refine store_event (t := 60) (p := 21) (v := ?vo_w13) (w1 := (((w11.setCell ⟨go10, (x4_1 : Int).toNat * 3, none⟩ (.string t296)).setCell ⟨go10, (x4_1 : Int).toNat * 3 + 1, none⟩ (.int .i64 t297)).setCell ⟨go10, (x4_1 : Int).toNat * 3 + 2, none⟩ (.bool t298))) ?hg ?ho ?hn ?hr ?_; (case ho => rfl); (case hg => rfl); (case hn => rfl); (case hr => (go_simp; done)); intro w13 hw; have hg : w11.grownBy w13 (some go10) := (by rw [hw]; exact HP12.2); have hp_ : Kd.R k60 60 w13 w.heap.size (fun _ => True) (.slice (some ⟨go10, 0, none⟩) x3_1.length co10) y299 := (by rw [hw, Ny299.out]; exact HP12.1); clear HP12; replace HO_3 := aM_ (hp_); replace HB := aM_ ((by rw [hw]; exact bS_ (bS_ (bS_ (HB.out) GB10.out) GB10.out) GB10.out : Below w.heap.size w w13)); clear hg hw hp_))
  go_roundg k1
  case measure => have := HK1.out; omega
  case rel => exact ⟨(y299), (wrap64 (x4_1 + 1)), (by rfl), H', ⟨by have := HK1.out; omega⟩, ⟨HO_3.out⟩, ⟨HB.out⟩⟩
def wF43.f (k : Nat) (l0_0 : List (S71)) : Option ((List (S60))) := (wF42.f k l0_0).bind fun t303 => (some t303)
theorem wF43.mono : ∀ a0 k, LeO (wF43.f k a0) (wF43.f (k + 1) a0) := by
 intro a0 k
 unfold wF43.f
 repeat' with_reducible first | exact wF42.mono _ _ | exact l3_ _ | exact l0_ _ | refine l2_ ?_ ?_ | refine l1_ ?_ (fun _ => ?_)
theorem wF43.calls (k : Nat) (A0_0 : Option Addr) (c0_0 : Nat) (l0_0 : List (S71)) (r : List (S60)) (w : World) (hr0_0 : Kd.C k71 w A0_0 l0_0.length l0_0) (hc0_0 : l0_0.length ≤ c0_0) (h : wF43.f k l0_0 = some r) :
  Calls Tryz.prog 10 #[.agg #[.slice A0_0 l0_0.length c0_0]] w fun e w' => ∃ v0_ : Value, e = .returned (.agg #[v0_]) ∧ Kd.R k60 60 w' w.heap.size (fun _ => True) v0_ r ∧ Below w.heap.size w w' := by
 have hu24 := Tryz.underlying24
 have hu30 := Tryz.underlying30
 have HR0_0 := aM_ hr0_0
 have HC0_0 := aM_ hc0_0
 clear hr0_0 hc0_0
 have HB := aM_ (Below.refl w.heap.size w)
 have H : ((wF42.f k l0_0).bind fun t303 => (some t303)) = some r := h
 clear h
 replace H := oB_.mp H
 obtain ⟨t303, A20, H⟩ := H
 try dsimp only at H
 have A2 := aM_ A20
 clear A20
 obtain rfl := Option.some.inj H
 go_enter Tryz.func10, Tryz.ntmps10
 go_wp2_with (first | (refine bx_ 1 #[.slice A0_0 l0_0.length c0_0] 24 ?_; intro gb300 hg w3 hbox hb; have BK300 := aM_ (hbox); have GW300 := gw_ hg HB; replace HB := b4_ HB hb; clear hb hbox hg) | (refine bx_ 2 #[.slice none 0 0] 30 ?_; intro gb301 hg w4 hbox hb; have BK301 := aM_ (hbox); have GW301 := gw_ hg HB; replace HB := b4_ HB hb; have NB300_301 := nb_ hg BK300; have NB301_300 := ns_ NB300_301; replace BK300 := b5_ BK300 hb; clear hb hbox hg) | (refine bx_ 3 #[.slice none 0 0] 30 ?_; intro gb302 hg w5 hbox hb; have BK302 := aM_ (hbox); have GW302 := gw_ hg HB; replace HB := b4_ HB hb; have NB300_302 := nb_ hg BK300; have NB302_300 := ns_ NB300_302; replace BK300 := b5_ BK300 hb; have NB301_302 := nb_ hg BK301; have NB302_301 := ns_ NB301_302; replace BK301 := b5_ BK301 hb; clear hb hbox hg; have hnb6 := NB300_301.out; have hnc6 := NB301_300.out; have hnb7 := NB300_302.out; have hnc7 := NB302_300.out; have hcz8_0 := c0_ BK300; have hfz8_0 := bF_ BK300.out 0) | (refine gs_ 6 Tryz.func32 #[.slice A0_0 l0_0.length c0_0] ?_; (with_reducible refine (wF42.calls k _ _ l0_0 t303 _ ?side1 HC0_0.out A2.out).mono ?_); (case side1 => repeat (first | exact (k4_ HR0_0.out HB.out) | with_reducible first | apply cA_ | apply cN_ | apply cD_)); rintro e w9 ⟨v304, rfl, ho0, hb⟩; refine ⟨_, rfl, ?_⟩; have HO305 := aM_ (k5_ ho0 (bZ_ HB.out)); replace BK300 := b5_ BK300 hb; replace BK301 := b5_ BK301 hb; replace BK302 := b5_ BK302 hb; replace HB := b4_ HB hb; (try clear hb); (try clear ho0); obtain ⟨Ao10, co10, eo10⟩ := kS_ HO305.out; subst eo10; have hnb11 := NB302_301.out; have hnc11 := NB301_302.out; have hcz12_0 := c0_ BK302; have hfz12_0 := bF_ BK302.out 0; have hcz13_0 := c0_ BK301; have hfz13_0 := bF_ BK301.out 0))
 refine bodyPost_ret (results_cell_row rfl _ _ gb301 30 #[.slice Ao10 t303.length co10] (0, 0) _ rfl (by refine bP_ (cs := #[.slice none 0 0]) ?_ 0 _ rfl; exact br_ NB301_302.out (BK301.out)) Tryz.underlying30 rfl (by kernel_rfl)) rfl ?_
 exact ⟨_, by rfl, by exact kM_ (kF_ (p := ⟨gb301, 0, none⟩) (kF_ (p := ⟨gb302, 0, none⟩) (kT_ (kT_ HO305.out BK302.out (by decide)) BK301.out (by decide)) (fun _ hk => hk.1.2) (.slice Ao10 t303.length co10)) (fun _ hk => hk.2) (.slice Ao10 t303.length co10)) (fun _ hk => trivial), by repeat with_reducible first | exact HB.out | apply bA_ | apply bN_ | apply bD_ | refine bS_ ?_ (Aside0.out ‹_›)⟩
def wF30.f (a0_0 : ByteArray) (a0_1 : Int) (a0_2 : Bool) (a1_0 : ByteArray) (a1_1 : Int) (a1_2 : Bool) : Option (Bool) := if a0_0.toList = a1_0.toList then (if a0_1 = a1_1 then (if (a0_2 != a1_2) = true then (some false) else (some true)) else (some false)) else (some false)
theorem wF30.calls (a0_0 : ByteArray) (a0_1 : Int) (a0_2 : Bool) (a1_0 : ByteArray) (a1_1 : Int) (a1_2 : Bool) (r : Bool) (w : World) (h : wF30.f a0_0 a0_1 a0_2 a1_0 a1_1 a1_2 = some r) :
  Calls Tryz.prog 68 #[.agg #[.string a0_0, .int .i64 a0_1, .bool a0_2], .agg #[.string a1_0, .int .i64 a1_1, .bool a1_2]] w fun e w' => e = .returned (.bool r) ∧ Below w.heap.size w w' := by
 have hu60 := Tryz.underlying60
 have HB := aM_ (Below.refl w.heap.size w)
 have H : (if a0_0.toList = a1_0.toList then (if a0_1 = a1_1 then (if (a0_2 != a1_2) = true then (some false) else (some true)) else (some false)) else (some false)) = some r := h
 clear h
 by_cases c3 : a0_0.toList = a1_0.toList
 rotate_left
 ·
  rw [if_neg c3] at H
  have c3b0 : (a0_0.toList == a1_0.toList) = false := beq_eq_false_iff_ne.mpr c3
  have c3b1 : (a0_0.toList != a1_0.toList) = true := bne_iff_ne.mpr c3
  obtain rfl := Option.some.inj H
  go_enter Tryz.func68, Tryz.ntmps68
  go_wp2_with (first | (refine bx_ 2 #[.string a0_0, .int .i64 a0_1, .bool a0_2] 60 ?_; intro gb485 hg w21 hbox hb; have BK485 := aM_ (hbox); have GW485 := gw_ hg HB; replace HB := b4_ HB hb; clear hb hbox hg) | (refine bx_ 3 #[.string a1_0, .int .i64 a1_1, .bool a1_2] 60 ?_; intro gb486 hg w22 hbox hb; have BK486 := aM_ (hbox); have GW486 := gw_ hg HB; replace HB := b4_ HB hb; have NB485_486 := nb_ hg BK485; have NB486_485 := ns_ NB485_486; replace BK485 := b5_ BK485 hb; clear hb hbox hg; have hnb23 := NB485_486.out; have hnc23 := NB486_485.out; have hcz24_0 := c0_ BK485; have hcz24_1 := c1_ BK485; have hcz24_2 := c2_ BK485; have hfz24_0 := bF_ BK485.out 0; have hfz24_1 := bF_ BK485.out 1; have hfz24_2 := bF_ BK485.out 2; have hcz25_0 := c0_ BK486; have hcz25_1 := c1_ BK486; have hcz25_2 := c2_ BK486; have hfz25_0 := bF_ BK486.out 0; have hfz25_1 := bF_ BK486.out 1; have hfz25_2 := bF_ BK486.out 2))
  go_ret
  exact ⟨by rfl, by exact HB.out⟩
 rw [if_pos c3] at H
 have c3b0 : (a0_0.toList == a1_0.toList) = true := beq_iff_eq.mpr c3
 have c3b1 : (a0_0.toList != a1_0.toList) = false := bne_eq_false_iff_eq.mpr c3
 clear c3
 by_cases c4 : a0_1 = a1_1
 rotate_left
 ·
  rw [if_neg c4] at H
  have c4b0 : (a0_1 == a1_1) = false := beq_eq_false_iff_ne.mpr c4
  have c4b1 : (a0_1 != a1_1) = true := bne_iff_ne.mpr c4
  obtain rfl := Option.some.inj H
  go_enter Tryz.func68, Tryz.ntmps68
  go_wp2_with (first | (refine bx_ 2 #[.string a0_0, .int .i64 a0_1, .bool a0_2] 60 ?_; intro gb485 hg w16 hbox hb; have BK485 := aM_ (hbox); have GW485 := gw_ hg HB; replace HB := b4_ HB hb; clear hb hbox hg) | (refine bx_ 3 #[.string a1_0, .int .i64 a1_1, .bool a1_2] 60 ?_; intro gb486 hg w17 hbox hb; have BK486 := aM_ (hbox); have GW486 := gw_ hg HB; replace HB := b4_ HB hb; have NB485_486 := nb_ hg BK485; have NB486_485 := ns_ NB485_486; replace BK485 := b5_ BK485 hb; clear hb hbox hg; have hnb18 := NB485_486.out; have hnc18 := NB486_485.out; have hcz19_0 := c0_ BK485; have hcz19_1 := c1_ BK485; have hcz19_2 := c2_ BK485; have hfz19_0 := bF_ BK485.out 0; have hfz19_1 := bF_ BK485.out 1; have hfz19_2 := bF_ BK485.out 2; have hcz20_0 := c0_ BK486; have hcz20_1 := c1_ BK486; have hcz20_2 := c2_ BK486; have hfz20_0 := bF_ BK486.out 0; have hfz20_1 := bF_ BK486.out 1; have hfz20_2 := bF_ BK486.out 2))
  go_ret
  exact ⟨by rfl, by exact HB.out⟩
 rw [if_pos c4] at H
 have c4b0 : (a0_1 == a1_1) = true := beq_iff_eq.mpr c4
 have c4b1 : (a0_1 != a1_1) = false := bne_eq_false_iff_eq.mpr c4
 clear c4
 by_cases c5 : (a0_2 != a1_2) = true
 ·
  rw [if_pos c5] at H
  have c5b0 : (a0_2 != a1_2) = true := c5
  (try (have c5b1 : decide (a0_2 = a1_2) = false := by simpa using c5))
  (try (have c5b2 : (a0_2 == a1_2) = false := by simpa using c5))
  (try (have c5b3 : ¬ (a0_2 = a1_2) := by simpa using c5))
  clear c5
  obtain rfl := Option.some.inj H
  go_enter Tryz.func68, Tryz.ntmps68
  go_wp2_with (first | (refine bx_ 2 #[.string a0_0, .int .i64 a0_1, .bool a0_2] 60 ?_; intro gb485 hg w6 hbox hb; have BK485 := aM_ (hbox); have GW485 := gw_ hg HB; replace HB := b4_ HB hb; clear hb hbox hg) | (refine bx_ 3 #[.string a1_0, .int .i64 a1_1, .bool a1_2] 60 ?_; intro gb486 hg w7 hbox hb; have BK486 := aM_ (hbox); have GW486 := gw_ hg HB; replace HB := b4_ HB hb; have NB485_486 := nb_ hg BK485; have NB486_485 := ns_ NB485_486; replace BK485 := b5_ BK485 hb; clear hb hbox hg; have hnb8 := NB485_486.out; have hnc8 := NB486_485.out; have hcz9_0 := c0_ BK485; have hcz9_1 := c1_ BK485; have hcz9_2 := c2_ BK485; have hfz9_0 := bF_ BK485.out 0; have hfz9_1 := bF_ BK485.out 1; have hfz9_2 := bF_ BK485.out 2; have hcz10_0 := c0_ BK486; have hcz10_1 := c1_ BK486; have hcz10_2 := c2_ BK486; have hfz10_0 := bF_ BK486.out 0; have hfz10_1 := bF_ BK486.out 1; have hfz10_2 := bF_ BK486.out 2))
  go_ret
  exact ⟨by rfl, by exact HB.out⟩
 rw [if_neg c5] at H
 have c5b0 : (a0_2 != a1_2) = false := by simpa using c5
 (try (have c5b1 : decide (a0_2 = a1_2) = true := by simpa using c5))
 (try (have c5b2 : (a0_2 == a1_2) = true := by simpa using c5))
 clear c5
 obtain rfl := Option.some.inj H
 go_enter Tryz.func68, Tryz.ntmps68
 go_wp2_with (first | (refine bx_ 2 #[.string a0_0, .int .i64 a0_1, .bool a0_2] 60 ?_; intro gb485 hg w11 hbox hb; have BK485 := aM_ (hbox); have GW485 := gw_ hg HB; replace HB := b4_ HB hb; clear hb hbox hg) | (refine bx_ 3 #[.string a1_0, .int .i64 a1_1, .bool a1_2] 60 ?_; intro gb486 hg w12 hbox hb; have BK486 := aM_ (hbox); have GW486 := gw_ hg HB; replace HB := b4_ HB hb; have NB485_486 := nb_ hg BK485; have NB486_485 := ns_ NB485_486; replace BK485 := b5_ BK485 hb; clear hb hbox hg; have hnb13 := NB485_486.out; have hnc13 := NB486_485.out; have hcz14_0 := c0_ BK485; have hcz14_1 := c1_ BK485; have hcz14_2 := c2_ BK485; have hfz14_0 := bF_ BK485.out 0; have hfz14_1 := bF_ BK485.out 1; have hfz14_2 := bF_ BK485.out 2; have hcz15_0 := c0_ BK486; have hcz15_1 := c1_ BK486; have hcz15_2 := c2_ BK486; have hfz15_0 := bF_ BK486.out 0; have hfz15_1 := bF_ BK486.out 1; have hfz15_2 := bF_ BK486.out 2))
 go_ret
 exact ⟨by rfl, by exact HB.out⟩
def wF31.l0 : Nat → List (S60) → List (S60) → Int → Option (Bool)
 | 0, _, _, _ => none
 | k + 1, x0, x1, x5 => if x5 < (x0.length : Int) then (if 0 ≤ x5 then (if x5 < (x1.length : Int) then ((wF30.f ((rd_T60 x0 x5).f0) ((rd_T60 x0 x5).f1) ((rd_T60 x0 x5).f2) ((rd_T60 x1 x5).f0) ((rd_T60 x1 x5).f1) ((rd_T60 x1 x5).f2)).bind fun t489 => (if t489 = true then (wF31.l0 k x0 x1 (wrap64 (x5 + 1))) else (some false))) else (none)) else (none)) else (some true)
def wF31.f (k : Nat) (l0 : List (S60)) (l1 : List (S60)) : Option (Bool) := if (l0.length : Int) = (l1.length : Int) then (wF31.l0 k l0 l1 0) else (some false)
theorem wF31.mono_l : ∀ k, (∀ y0 y1 y2, LeO (wF31.l0 k y0 y1 y2) (wF31.l0 (k + 1) y0 y1 y2))
 | 0 => fun _ _ _ r h => by simp [wF31.l0] at h
 | k + 1 => by
  have ih0 := wF31.mono_l k
  intro y0 y1 y2
  unfold wF31.l0
  repeat' with_reducible first | exact ih0 _ _ _ | exact l3_ _ | exact l0_ _ | refine l2_ ?_ ?_ | refine l1_ ?_ (fun _ => ?_)
theorem wF31.mono : ∀ a0 a1 k, LeO (wF31.f k a0 a1) (wF31.f (k + 1) a0 a1) := by
 intro a0 a1 k
 have ih0 := wF31.mono_l k
 unfold wF31.f
 repeat' with_reducible first | exact ih0 _ _ _ | exact l3_ _ | exact l0_ _ | refine l2_ ?_ ?_ | refine l1_ ?_ (fun _ => ?_)
def wF31.T6 : Bool × List (List Nat × List Nat) := (true, [([], []), ([], []), ([0, 1], [0, 1]), ([2], [2]), ([], []), ([], []), ([4, 5], [4, 5]), ([6], [6]), ([3, 7], [3, 7]), ([8], [8])])
def wF31.B6 : List Nat := [0, 0, 3, 7, 0, 0, 48, 112, 255, 511]
theorem wF31.tab6 : rtab .any (opsOf Tryz.f38 6) = wF31.T6 := by kernel_rfl
theorem wF31.bits6 : waitsOk wF31.T6.2 wF31.B6 = true := by kernel_rfl
theorem wF31.calls (k : Nat) (A0 : Option Addr) (c0 : Nat) (l0 : List (S60)) (A1 : Option Addr) (c1 : Nat) (l1 : List (S60)) (r : Bool) (w : World) (hr0 : Kd.C k60 w A0 l0.length l0) (hc0 : l0.length ≤ c0) (hr1 : Kd.C k60 w A1 l1.length l1) (hc1 : l1.length ≤ c1) (h : wF31.f k l0 l1 = some r) :
  Calls Tryz.prog 38 #[.slice A0 l0.length c0, .slice A1 l1.length c1] w fun e w' => e = .returned (.bool r) ∧ Below w.heap.size w w' := by
 have hu60 := Tryz.underlying60
 have HR0 := aM_ hr0
 have HC0 := aM_ hc0
 clear hr0 hc0
 have HR1 := aM_ hr1
 have HC1 := aM_ hc1
 clear hr1 hc1
 have HB := aM_ (Below.refl w.heap.size w)
 have H : (if (l0.length : Int) = (l1.length : Int) then (wF31.l0 k l0 l1 0) else (some false)) = some r := h
 clear h
 by_cases c3 : (l0.length : Int) = (l1.length : Int)
 rotate_left
 ·
  rw [if_neg c3] at H
  have c3b0 : ((l0.length : Int) == (l1.length : Int)) = false := beq_eq_false_iff_ne.mpr c3
  have c3b1 : ((l0.length : Int) != (l1.length : Int)) = true := bne_iff_ne.mpr c3
  have c3b2 : (l0.length == l1.length) = false := by first | simpa using c3 | (simp at c3 ⊢; omega)
  obtain rfl := Option.some.inj H
  go_enter Tryz.func38, Tryz.ntmps38
  go_wp2
  go_ret
  exact ⟨by rfl, by exact HB.out⟩
 rw [if_pos c3] at H
 have c3b0 : ((l0.length : Int) == (l1.length : Int)) = true := beq_iff_eq.mpr c3
 have c3b1 : ((l0.length : Int) != (l1.length : Int)) = false := bne_eq_false_iff_eq.mpr c3
 have c3b2 : (l0.length == l1.length) = true := by first | simpa using c3 | (simp at c3 ⊢; omega)
 clear c3
 have H' := aM_ H
 clear H
 go_enter Tryz.func38, Tryz.ntmps38
 go_wp2
 go_loopg [5] k (fun kq v5 w' => ∃ (x5_1 : Int), v5 = .int .i64 x5_1 ∧ Aside0 (wF31.l0 kq l0 l1 x5_1 = some r) ∧ Aside0 (kq ≤ k) ∧ Aside0 (Below w.heap.size w w'))
 case atStart => exact ⟨(0), (by rfl), H', ⟨Nat.le_refl _⟩, ⟨HB.out⟩⟩
 clear H'
 try clear p2
 try clear c3b0
 try clear c3b1
 try clear c3b2
 obtain ⟨x5_1, rfl, HA, HK1, HB⟩ := hrel
 cases gk with
 | zero => exact absurd HA.out (by simp [wF31.l0])
 | succ k1 =>
  have H := HA.out
  clear HA
  simp only [wF31.l0] at H
  by_cases c4 : x5_1 < (l0.length : Int)
  rotate_left
  ·
   rw [if_neg c4] at H
   have c4b0 := dF_ c4
   clear c4
   obtain rfl := Option.some.inj H
   go_wp2
   go_ret
   exact ⟨by rfl, by exact HB.out⟩
  rw [if_pos c4] at H
  have c4b0 := dT_ c4
  clear c4
  by_cases c5 : 0 ≤ x5_1
  rotate_left
  ·
   rw [if_neg c5] at H
   exact absurd H (by simp)
  rw [if_pos c5] at H
  have c5b0 := dT_ c5
  clear c5
  by_cases c6 : x5_1 < (l1.length : Int)
  rotate_left
  ·
   rw [if_neg c6] at H
   exact absurd H (by simp)
  rw [if_pos c6] at H
  have c6b0 := dT_ c6
  clear c6
  replace H := oB_.mp H
  obtain ⟨t489, A70, H⟩ := H
  try dsimp only at H
  have A7 := aM_ A70
  clear A70
  by_cases c8 : t489 = true
  ·
   subst c8
   rw [if_pos rfl] at H
   have H' := aM_ H
   clear H
   try go_wp2
   replace HB := aM_ (bD_ HB.out)
   have p487 : 0 ≤ (x5_1 : Int) := oD_ ‹_›
   have q487 : x5_1 < (l0.length : Int) := oD_ ‹_›
   obtain ⟨ad487, e487, hx487_0, hx487_1, hx487_2⟩ := at_T60 HR0.out x5_1 p487 q487
   have hw487_2 := hx487_2
   have hw487_1 := hx487_1
   have hw487_0 := hx487_0
   cases e487
   replace hx487_0 := cb_ HB hx487_0
   replace hx487_1 := cb_ HB hx487_1
   replace hx487_2 := cb_ HB hx487_2
   replace p487 := eq_true p487
   replace q487 := eq_true q487
   have p488 : 0 ≤ (x5_1 : Int) := oD_ ‹_›
   have q488 : x5_1 < (l1.length : Int) := oD_ ‹_›
   obtain ⟨ad488, e488, hx488_0, hx488_1, hx488_2⟩ := at_T60 HR1.out x5_1 p488 q488
   have hw488_2 := hx488_2
   have hw488_1 := hx488_1
   have hw488_0 := hx488_0
   cases e488
   replace hx488_0 := cb_ HB hx488_0
   replace hx488_1 := cb_ HB hx488_1
   replace hx488_2 := cb_ HB hx488_2
   replace p488 := eq_true p488
   replace q488 := eq_true q488
   refine start_ (n := 10) (S := fun w' => w'.cell? (ad487.add ((x5_1).toNat * 3)) = some (.string ((rd_T60 l0 x5_1).f0)) ∧ w'.cell? ⟨(ad487.add ((x5_1).toNat * 3)).block, (ad487.add ((x5_1).toNat * 3)).off + 1, none⟩ = some (.int .i64 ((rd_T60 l0 x5_1).f1)) ∧ w'.cell? ⟨(ad487.add ((x5_1).toNat * 3)).block, (ad487.add ((x5_1).toNat * 3)).off + 2, none⟩ = some (.bool ((rd_T60 l0 x5_1).f2)) ∧ w'.cell? (ad488.add ((x5_1).toNat * 3)) = some (.string ((rd_T60 l1 x5_1).f0)) ∧ w'.cell? ⟨(ad488.add ((x5_1).toNat * 3)).block, (ad488.add ((x5_1).toNat * 3)).off + 1, none⟩ = some (.int .i64 ((rd_T60 l1 x5_1).f1)) ∧ w'.cell? ⟨(ad488.add ((x5_1).toNat * 3)).block, (ad488.add ((x5_1).toNat * 3)).off + 2, none⟩ = some (.bool ((rd_T60 l1 x5_1).f2))) (ds := []) #[fy, fy, fy, fy, fy, fy, fy, fy, fy, fy] (by kernel_rfl) rfl rfl ⟨(cb_ HB hw487_0), (cb_ HB hw487_1), (cb_ HB hw487_2), (cb_ HB hw488_0), (cb_ HB hw488_1), (cb_ HB hw488_2)⟩ (fun hHeld => ?_); refine with_tabW wF31.tab6 wF31.bits6 (fun HT_ HW_ => ?_)
   generalize wr.drew = w9 at HB hx487_0 hx487_1 hx487_2 hx488_0 hx488_1 hx488_2 hHeld ⊢
   refine pu_ HT_ 0 17 #[ty, fy, fy, fy, fy, fy, fy, fy, fy, fy] ?_
   refine pu_ HT_ 1 18 #[ty, ty, fy, fy, fy, fy, fy, fy, fy, fy] ?_
   refine pu_ HT_ 2 19 #[ty, ty, ty, fy, fy, fy, fy, fy, fy, fy] ?_
   refine pu_ HT_ 4 21 #[ty, ty, ty, fy, ty, fy, fy, fy, fy, fy] ?_
   refine pu_ HT_ 5 22 #[ty, ty, ty, fy, ty, ty, fy, fy, fy, fy] ?_
   refine pu_ HT_ 6 23 #[ty, ty, ty, fy, ty, ty, ty, fy, fy, fy] ?_
   refine tk_ HT_ HW_ 3 20 #[ty, ty, ty, ty, ty, ty, ty, fy, fy, fy] hHeld ?_ (hr := by rintro w' ⟨s0, s1, s2, s3, s4, s5⟩; go_simp; with_reducible rfl)
   refine tk_ HT_ HW_ 7 24 #[ty, ty, ty, ty, ty, ty, ty, ty, fy, fy] hHeld ?_ (hr := by rintro w' ⟨s0, s1, s2, s3, s4, s5⟩; go_simp; with_reducible rfl)
   refine one_ (i := 8) (N := some 25) #[ty, ty, ty, ty, ty, ty, ty, ty, ty, fy] rfl rfl (one_of HT_.out (by kernel_rfl)) (by decide) (fun K hK => ?_)
   refine goes_ Tryz.func68 (by kernel_rfl) rfl #[.agg #[.string ((rd_T60 l0 x5_1).f0), .int .i64 ((rd_T60 l0 x5_1).f1), .bool ((rd_T60 l0 x5_1).f2)], .agg #[.string ((rd_T60 l1 x5_1).f0), .int .i64 ((rd_T60 l1 x5_1).f1), .bool ((rd_T60 l1 x5_1).f2)]] (by rfl) rfl rfl (by (try simp only [sD_, sE_, sF_]); rfl) ?_
   with_reducible refine (wF30.calls ((rd_T60 l0 x5_1).f0) ((rd_T60 l0 x5_1).f1) ((rd_T60 l0 x5_1).f2) ((rd_T60 l1 x5_1).f0) ((rd_T60 l1 x5_1).f1) ((rd_T60 l1 x5_1).f2) true _ A7.out).mono ?_
   rintro e w10 ⟨rfl, hb⟩
   refine ⟨_, rfl, ?_⟩
   replace HB := b4_ HB hb
   (try clear hb)
   refine hK.out _ _ ⟨(cb_ HB hw487_0), (cb_ HB hw487_1), (cb_ HB hw487_2), (cb_ HB hw488_0), (cb_ HB hw488_1), (cb_ HB hw488_2)⟩ (fun hHeld => ?_)
   clear hK K
   refine norm_ (by show Act.put _ (some 25) _ = _; simp only [Act.put, sA_, sB_, sC_, i6_, i3_]; rfl) ?_
   refine pu_ HT_ 9 26 #[ty, ty, ty, ty, ty, ty, ty, ty, ty, ty] ?_
   refine done_ (done_of HT_.out (by kernel_rfl)) ?_
   try go_wp2
   go_roundg k1
   case measure => have := HK1.out; omega
   case rel => exact ⟨(wrap64 (x5_1 + 1)), (by rfl), H', ⟨by have := HK1.out; omega⟩, ⟨HB.out⟩⟩
  replace c8 := Bool.eq_false_iff.mpr c8
  subst c8
  replace H : (some false) = some r := by rw [if_neg (show ¬ (false = true) by decide)] at H; exact H
  obtain rfl := Option.some.inj H
  try go_wp2
  replace HB := aM_ (bD_ HB.out)
  have p487 : 0 ≤ (x5_1 : Int) := oD_ ‹_›
  have q487 : x5_1 < (l0.length : Int) := oD_ ‹_›
  obtain ⟨ad487, e487, hx487_0, hx487_1, hx487_2⟩ := at_T60 HR0.out x5_1 p487 q487
  have hw487_2 := hx487_2
  have hw487_1 := hx487_1
  have hw487_0 := hx487_0
  cases e487
  replace hx487_0 := cb_ HB hx487_0
  replace hx487_1 := cb_ HB hx487_1
  replace hx487_2 := cb_ HB hx487_2
  replace p487 := eq_true p487
  replace q487 := eq_true q487
  have p488 : 0 ≤ (x5_1 : Int) := oD_ ‹_›
  have q488 : x5_1 < (l1.length : Int) := oD_ ‹_›
  obtain ⟨ad488, e488, hx488_0, hx488_1, hx488_2⟩ := at_T60 HR1.out x5_1 p488 q488
  have hw488_2 := hx488_2
  have hw488_1 := hx488_1
  have hw488_0 := hx488_0
  cases e488
  replace hx488_0 := cb_ HB hx488_0
  replace hx488_1 := cb_ HB hx488_1
  replace hx488_2 := cb_ HB hx488_2
  replace p488 := eq_true p488
  replace q488 := eq_true q488
  refine start_ (n := 10) (S := fun w' => w'.cell? (ad487.add ((x5_1).toNat * 3)) = some (.string ((rd_T60 l0 x5_1).f0)) ∧ w'.cell? ⟨(ad487.add ((x5_1).toNat * 3)).block, (ad487.add ((x5_1).toNat * 3)).off + 1, none⟩ = some (.int .i64 ((rd_T60 l0 x5_1).f1)) ∧ w'.cell? ⟨(ad487.add ((x5_1).toNat * 3)).block, (ad487.add ((x5_1).toNat * 3)).off + 2, none⟩ = some (.bool ((rd_T60 l0 x5_1).f2)) ∧ w'.cell? (ad488.add ((x5_1).toNat * 3)) = some (.string ((rd_T60 l1 x5_1).f0)) ∧ w'.cell? ⟨(ad488.add ((x5_1).toNat * 3)).block, (ad488.add ((x5_1).toNat * 3)).off + 1, none⟩ = some (.int .i64 ((rd_T60 l1 x5_1).f1)) ∧ w'.cell? ⟨(ad488.add ((x5_1).toNat * 3)).block, (ad488.add ((x5_1).toNat * 3)).off + 2, none⟩ = some (.bool ((rd_T60 l1 x5_1).f2))) (ds := []) #[fy, fy, fy, fy, fy, fy, fy, fy, fy, fy] (by kernel_rfl) rfl rfl ⟨(cb_ HB hw487_0), (cb_ HB hw487_1), (cb_ HB hw487_2), (cb_ HB hw488_0), (cb_ HB hw488_1), (cb_ HB hw488_2)⟩ (fun hHeld => ?_); refine with_tabW wF31.tab6 wF31.bits6 (fun HT_ HW_ => ?_)
  generalize wr.drew = w11 at HB hx487_0 hx487_1 hx487_2 hx488_0 hx488_1 hx488_2 hHeld ⊢
  refine pu_ HT_ 0 17 #[ty, fy, fy, fy, fy, fy, fy, fy, fy, fy] ?_
  refine pu_ HT_ 1 18 #[ty, ty, fy, fy, fy, fy, fy, fy, fy, fy] ?_
  refine pu_ HT_ 2 19 #[ty, ty, ty, fy, fy, fy, fy, fy, fy, fy] ?_
  refine pu_ HT_ 4 21 #[ty, ty, ty, fy, ty, fy, fy, fy, fy, fy] ?_
  refine pu_ HT_ 5 22 #[ty, ty, ty, fy, ty, ty, fy, fy, fy, fy] ?_
  refine pu_ HT_ 6 23 #[ty, ty, ty, fy, ty, ty, ty, fy, fy, fy] ?_
  refine tk_ HT_ HW_ 3 20 #[ty, ty, ty, ty, ty, ty, ty, fy, fy, fy] hHeld ?_ (hr := by rintro w' ⟨s0, s1, s2, s3, s4, s5⟩; go_simp; with_reducible rfl)
  refine tk_ HT_ HW_ 7 24 #[ty, ty, ty, ty, ty, ty, ty, ty, fy, fy] hHeld ?_ (hr := by rintro w' ⟨s0, s1, s2, s3, s4, s5⟩; go_simp; with_reducible rfl)
  refine one_ (i := 8) (N := some 25) #[ty, ty, ty, ty, ty, ty, ty, ty, ty, fy] rfl rfl (one_of HT_.out (by kernel_rfl)) (by decide) (fun K hK => ?_)
  refine goes_ Tryz.func68 (by kernel_rfl) rfl #[.agg #[.string ((rd_T60 l0 x5_1).f0), .int .i64 ((rd_T60 l0 x5_1).f1), .bool ((rd_T60 l0 x5_1).f2)], .agg #[.string ((rd_T60 l1 x5_1).f0), .int .i64 ((rd_T60 l1 x5_1).f1), .bool ((rd_T60 l1 x5_1).f2)]] (by rfl) rfl rfl (by (try simp only [sD_, sE_, sF_]); rfl) ?_
  with_reducible refine (wF30.calls ((rd_T60 l0 x5_1).f0) ((rd_T60 l0 x5_1).f1) ((rd_T60 l0 x5_1).f2) ((rd_T60 l1 x5_1).f0) ((rd_T60 l1 x5_1).f1) ((rd_T60 l1 x5_1).f2) false _ A7.out).mono ?_
  rintro e w12 ⟨rfl, hb⟩
  refine ⟨_, rfl, ?_⟩
  replace HB := b4_ HB hb
  (try clear hb)
  refine hK.out _ _ ⟨(cb_ HB hw487_0), (cb_ HB hw487_1), (cb_ HB hw487_2), (cb_ HB hw488_0), (cb_ HB hw488_1), (cb_ HB hw488_2)⟩ (fun hHeld => ?_)
  clear hK K
  refine norm_ (by show Act.put _ (some 25) _ = _; simp only [Act.put, sA_, sB_, sC_, i6_, i3_]; rfl) ?_
  refine pu_ HT_ 9 26 #[ty, ty, ty, ty, ty, ty, ty, ty, ty, ty] ?_
  refine done_ (done_of HT_.out (by kernel_rfl)) ?_
  try go_wp2
  go_ret
  exact ⟨by rfl, by exact HB.out⟩
def wF32.f (k : Nat) (l0_0 : List (S60)) (l1_0 : List (S60)) : Option (Bool) := (wF31.f k l0_0 l1_0).bind fun t492 => (if t492 = true then (some true) else (some false))
theorem wF32.mono : ∀ a0 a1 k, LeO (wF32.f k a0 a1) (wF32.f (k + 1) a0 a1) := by
 intro a0 a1 k
 unfold wF32.f
 repeat' with_reducible first | exact wF31.mono _ _ _ | exact l3_ _ | exact l0_ _ | refine l2_ ?_ ?_ | refine l1_ ?_ (fun _ => ?_)
theorem wF32.calls (k : Nat) (A0_0 : Option Addr) (c0_0 : Nat) (l0_0 : List (S60)) (A1_0 : Option Addr) (c1_0 : Nat) (l1_0 : List (S60)) (r : Bool) (w : World) (hr0_0 : Kd.C k60 w A0_0 l0_0.length l0_0) (hc0_0 : l0_0.length ≤ c0_0) (hr1_0 : Kd.C k60 w A1_0 l1_0.length l1_0) (hc1_0 : l1_0.length ≤ c1_0) (h : wF32.f k l0_0 l1_0 = some r) :
  Calls Tryz.prog 12 #[.agg #[.slice A0_0 l0_0.length c0_0], .agg #[.slice A1_0 l1_0.length c1_0]] w fun e w' => e = .returned (.bool r) ∧ Below w.heap.size w w' := by
 have hu30 := Tryz.underlying30
 have HR0_0 := aM_ hr0_0
 have HC0_0 := aM_ hc0_0
 clear hr0_0 hc0_0
 have HR1_0 := aM_ hr1_0
 have HC1_0 := aM_ hc1_0
 clear hr1_0 hc1_0
 have HB := aM_ (Below.refl w.heap.size w)
 have H : ((wF31.f k l0_0 l1_0).bind fun t492 => (if t492 = true then (some true) else (some false))) = some r := h
 clear h
 replace H := oB_.mp H
 obtain ⟨t492, A30, H⟩ := H
 try dsimp only at H
 have A3 := aM_ A30
 clear A30
 by_cases c4 : t492 = true
 ·
  subst c4
  rw [if_pos rfl] at H
  obtain rfl := Option.some.inj H
  go_enter Tryz.func12, Tryz.ntmps12
  go_wp2_with (first | (refine bx_ 2 #[.slice A0_0 l0_0.length c0_0] 30 ?_; intro gb490 hg w5 hbox hb; have BK490 := aM_ (hbox); have GW490 := gw_ hg HB; replace HB := b4_ HB hb; clear hb hbox hg) | (refine bx_ 3 #[.slice A1_0 l1_0.length c1_0] 30 ?_; intro gb491 hg w6 hbox hb; have BK491 := aM_ (hbox); have GW491 := gw_ hg HB; replace HB := b4_ HB hb; have NB490_491 := nb_ hg BK490; have NB491_490 := ns_ NB490_491; replace BK490 := b5_ BK490 hb; clear hb hbox hg; have hnb7 := NB490_491.out; have hnc7 := NB491_490.out; have hcz8_0 := c0_ BK490; have hfz8_0 := bF_ BK490.out 0; have hcz9_0 := c0_ BK491; have hfz9_0 := bF_ BK491.out 0) | (refine gs_ 9 Tryz.func38 #[.slice A0_0 l0_0.length c0_0, .slice A1_0 l1_0.length c1_0] ?_; (with_reducible refine (wF31.calls k _ _ l0_0 _ _ l1_0 true _ ?side1 HC0_0.out ?side3 HC1_0.out A3.out).mono ?_); (case side1 => repeat (first | exact (k4_ HR0_0.out HB.out) | with_reducible first | apply cA_ | apply cN_ | apply cD_)); (case side3 => repeat (first | exact (k4_ HR1_0.out HB.out) | with_reducible first | apply cA_ | apply cN_ | apply cD_)); rintro e w10 ⟨rfl, hb⟩; refine ⟨_, rfl, ?_⟩; replace BK490 := b5_ BK490 hb; replace BK491 := b5_ BK491 hb; replace HB := b4_ HB hb; (try clear hb)))
  go_ret
  exact ⟨by rfl, by exact HB.out⟩
 replace c4 := Bool.eq_false_iff.mpr c4
 subst c4
 replace H : (some false) = some r := by rw [if_neg (show ¬ (false = true) by decide)] at H; exact H
 obtain rfl := Option.some.inj H
 go_enter Tryz.func12, Tryz.ntmps12
 go_wp2_with (first | (refine bx_ 2 #[.slice A0_0 l0_0.length c0_0] 30 ?_; intro gb490 hg w11 hbox hb; have BK490 := aM_ (hbox); have GW490 := gw_ hg HB; replace HB := b4_ HB hb; clear hb hbox hg) | (refine bx_ 3 #[.slice A1_0 l1_0.length c1_0] 30 ?_; intro gb491 hg w12 hbox hb; have BK491 := aM_ (hbox); have GW491 := gw_ hg HB; replace HB := b4_ HB hb; have NB490_491 := nb_ hg BK490; have NB491_490 := ns_ NB490_491; replace BK490 := b5_ BK490 hb; clear hb hbox hg; have hnb13 := NB490_491.out; have hnc13 := NB491_490.out; have hcz14_0 := c0_ BK490; have hfz14_0 := bF_ BK490.out 0; have hcz15_0 := c0_ BK491; have hfz15_0 := bF_ BK491.out 0) | (refine gs_ 9 Tryz.func38 #[.slice A0_0 l0_0.length c0_0, .slice A1_0 l1_0.length c1_0] ?_; (with_reducible refine (wF31.calls k _ _ l0_0 _ _ l1_0 false _ ?side1 HC0_0.out ?side3 HC1_0.out A3.out).mono ?_); (case side1 => repeat (first | exact (k4_ HR0_0.out HB.out) | with_reducible first | apply cA_ | apply cN_ | apply cD_)); (case side3 => repeat (first | exact (k4_ HR1_0.out HB.out) | with_reducible first | apply cA_ | apply cN_ | apply cD_)); rintro e w16 ⟨rfl, hb⟩; refine ⟨_, rfl, ?_⟩; replace BK490 := b5_ BK490 hb; replace BK491 := b5_ BK491 hb; replace HB := b4_ HB hb; (try clear hb)))
 go_ret
 exact ⟨by rfl, by exact HB.out⟩
def wF37.l0 : Nat → Int → ByteArray → Option (ByteArray)
 | 0, _, _ => none
 | k + 1, x0, x3 => if x0 > 0 then ((some (([(wrap64 (48 + (Int.tmod x0 10))) % 256] : List Int) : List Int)).bind fun y530 => (if (strOfNums y530).size + x3.size ≤ 9223372036854775807 then (wF37.l0 k (wrap64 (Int.tdiv x0 10)) ((strOfNums y530) ++ x3)) else (none))) else (if 1 + x3.size ≤ 9223372036854775807 then (some ((⟨#[109]⟩ : ByteArray) ++ x3)) else (none))
def wF37.f (k : Nat) (a0 : Int) : Option (ByteArray) := if a0 ≤ 0 then (some (⟨#[109, 48]⟩ : ByteArray)) else (wF37.l0 k a0 (⟨#[]⟩ : ByteArray))
theorem wF37.mono_l : ∀ k, (∀ y0 y1, LeO (wF37.l0 k y0 y1) (wF37.l0 (k + 1) y0 y1))
 | 0 => fun _ _ r h => by simp [wF37.l0] at h
 | k + 1 => by
  have ih0 := wF37.mono_l k
  intro y0 y1
  unfold wF37.l0
  repeat' with_reducible first | exact ih0 _ _ | exact l3_ _ | exact l0_ _ | refine l2_ ?_ ?_ | refine l1_ ?_ (fun _ => ?_)
theorem wF37.mono : ∀ a0 k, LeO (wF37.f k a0) (wF37.f (k + 1) a0) := by
 intro a0 k
 have ih0 := wF37.mono_l k
 unfold wF37.f
 repeat' with_reducible first | exact ih0 _ _ | exact l3_ _ | exact l0_ _ | refine l2_ ?_ ?_ | refine l1_ ?_ (fun _ => ?_)
theorem wF37.calls (k : Nat) (a0 : Int) (r : ByteArray) (w : World) (h : wF37.f k a0 = some r) :
  Calls Tryz.prog 70 #[.int .i64 a0] w fun e w' => e = .returned (.string r) ∧ Below w.heap.size w w' := by
 have HB := aM_ (Below.refl w.heap.size w)
 have H : (if a0 ≤ 0 then (some (⟨#[109, 48]⟩ : ByteArray)) else (wF37.l0 k a0 (⟨#[]⟩ : ByteArray))) = some r := h
 clear h
 by_cases c2 : a0 ≤ 0
 ·
  rw [if_pos c2] at H
  have c2b0 := dT_ c2
  clear c2
  obtain rfl := Option.some.inj H
  go_enter Tryz.func70, Tryz.ntmps70
  go_wp2
  go_ret
  exact ⟨by rfl, by exact HB.out⟩
 rw [if_neg c2] at H
 have c2b0 := dF_ c2
 clear c2
 have H' := aM_ H
 clear H
 go_enter Tryz.func70, Tryz.ntmps70
 go_wp2
 go_loopg [0, 3] k (fun kq v0 v3 w' => ∃ (x0_1 : Int) (x3_1 : ByteArray), v0 = .int .i64 x0_1 ∧ v3 = .string x3_1 ∧ Aside0 (wF37.l0 kq x0_1 x3_1 = some r) ∧ Aside0 (kq ≤ k) ∧ Aside0 (Below w.heap.size w w'))
 case atStart => exact ⟨(a0), ((⟨#[]⟩ : ByteArray)), (by rfl), (by rfl), H', ⟨Nat.le_refl _⟩, ⟨HB.out⟩⟩
 clear H'
 try clear c2b0
 try clear p2
 obtain ⟨x0_1, x3_1, rfl, rfl, HA, HK1, HB⟩ := hrel
 cases gk with
 | zero => exact absurd HA.out (by simp [wF37.l0])
 | succ k1 =>
  have H := HA.out
  clear HA
  simp only [wF37.l0] at H
  by_cases c3 : x0_1 > 0
  ·
   rw [if_pos c3] at H
   have c3b0 := dT_ c3
   clear c3
   obtain ⟨y530, hy530⟩ : ∃ y_ : List Int, y_ = (([(wrap64 (48 + (Int.tmod x0_1 10))) % 256] : List Int)) := ⟨_, rfl⟩
   replace H : (if (strOfNums y530).size + x3_1.size ≤ 9223372036854775807 then (wF37.l0 k1 (wrap64 (Int.tdiv x0_1 10)) ((strOfNums y530) ++ x3_1)) else (none)) = some r := by (try rw [hy530]); first | with_reducible exact H | with_reducible exact oS_ H | exact H
   have Ny530 := aM_ hy530
   clear hy530
   by_cases c4 : (strOfNums y530).size + x3_1.size ≤ 9223372036854775807
   ·
    rw [if_pos c4] at H
    have c4b0 := eq_true c4
    have c4b1 := dT_ c4
    try have c4b2 : (9223372036854775807 < (strOfNums y530).size + x3_1.size) = False := eq_false (Nat.not_lt.2 c4)
    have H' := aM_ H
    clear H
    go_wp2_with (first | ((with_reducible refine gD_ (N := 12) rfl ?_); refine Kd.R_lit (Kd.int .u8) _ 5 ?hg (N := 12) ?hd (xs := ([(wrap64 (48 + (Int.tmod x0_1 10))) % 256] : List Int)) (inner := [.int .u8 ((wrap64 (48 + (Int.tmod x0_1 10))) % 256)]) (ok := fun _ => True) (okp := fun _ => True) ?hr ?hp (fun _ hk => hk) trivial (Below.refl _ _) (Nat.le_refl _) (by simp) ?_; (case hd => rfl); (case hg => rfl); (case hr => (go_simp; done)); (case hp => exact (Reps.one (show Kd.M (Kd.int .u8) _ _ _ ((wrap64 (48 + (Int.tmod x0_1 10))) % 256) [.int .u8 ((wrap64 (48 + (Int.tmod x0_1 10))) % 256)] from rfl) (Reps.none _ _))); intro v531 w5 ho6 hb hg_ hnew_; clear hg_ hnew_; (rw [← Ny530.out] at ho6); have HO532 := aM_ (k5_ ho6 (bZ_ HB.out)); replace HB := b4_ HB hb; clear hb ho6; have hcv7 := own_string (P := Tryz.prog) Tryz.underlying93 Tryz.underlying5 Tryz.underlying9 (Kd.own_of_R HO532.out)))
    go_roundg k1
    case measure => have := HK1.out; omega
    case rel => exact ⟨(wrap64 (Int.tdiv x0_1 10)), ((strOfNums y530) ++ x3_1), (by rfl), (by rfl), H', ⟨by have := HK1.out; omega⟩, ⟨HB.out⟩⟩
   rw [if_neg c4] at H
   exact absurd H (by simp)
  rw [if_neg c3] at H
  have c3b0 := dF_ c3
  clear c3
  by_cases c8 : 1 + x3_1.size ≤ 9223372036854775807
  ·
   rw [if_pos c8] at H
   have c8b0 := eq_true c8
   have c8b1 := dT_ c8
   try have c8b2 : (9223372036854775807 < 1 + x3_1.size) = False := eq_false (Nat.not_lt.2 c8)
   obtain rfl := Option.some.inj H
   go_wp2
   go_ret
   exact ⟨by rfl, by exact HB.out⟩
  rw [if_neg c8] at H
  exact absurd H (by simp)
def wF35.l0 : Nat → List (S60) → Int → Int → Option (Int × (List (S60)))
 | 0, _, _, _ => none
 | k + 1, x0, x1, x5 => if x5 < (x0.length : Int) then ((wF37.f k x1).bind fun t533 => (if 0 ≤ x5 then ((some (x0.set (x5 : Int).toNat (⟨t533, (rd_T60 x0 x5).f1, (rd_T60 x0 x5).f2⟩ : S60) : List (S60))).bind fun y534 => ((some (y534.set (x5 : Int).toNat (⟨(rd_T60 y534 x5).f0, wrap64 (x1 + 1), (rd_T60 y534 x5).f2⟩ : S60) : List (S60))).bind fun y535 => (wF35.l0 k (y535.set (x5 : Int).toNat (⟨(rd_T60 y535 x5).f0, (rd_T60 y535 x5).f1, ((Int.tmod (wrap64 ((wrap64 (x1 + 1)) + 1)) 3) == 0)⟩ : S60)) (wrap64 ((wrap64 ((wrap64 (x1 + 1)) + 1)) + 1)) (wrap64 (x5 + 1))))) else (none))) else (some (x1, x0))
def wF35.f (k : Nat) (l0 : List (S60)) (a1 : Int) : Option (Int × (List (S60))) := wF35.l0 k l0 a1 0
theorem wF35.mono_l : ∀ k, (∀ y0 y1 y2, LeO (wF35.l0 k y0 y1 y2) (wF35.l0 (k + 1) y0 y1 y2))
 | 0 => fun _ _ _ r h => by simp [wF35.l0] at h
 | k + 1 => by
  have ih0 := wF35.mono_l k
  intro y0 y1 y2
  unfold wF35.l0
  repeat' with_reducible first | exact ih0 _ _ _ | exact wF37.mono _ _ | exact l3_ _ | exact l0_ _ | refine l2_ ?_ ?_ | refine l1_ ?_ (fun _ => ?_)
theorem wF35.mono : ∀ a0 a1 k, LeO (wF35.f k a0 a1) (wF35.f (k + 1) a0 a1) := by
 intro a0 a1 k
 have ih0 := wF35.mono_l k
 unfold wF35.f
 repeat' with_reducible first | exact ih0 _ _ _ | exact wF37.mono _ _ | exact l3_ _ | exact l0_ _ | refine l2_ ?_ ?_ | refine l1_ ?_ (fun _ => ?_)
theorem wF35.calls (k : Nat) (P0_ : Nat → Prop) (u9000_ : Value) (l0 : List (S60)) (a1 : Int) (r1 : Int) (r2 : List (S60)) (w0 w : World) (hB : Below w0.heap.size w0 w) (ho0 : Kd.R k60 60 w w0.heap.size P0_ u9000_ l0) (h : wF35.f k l0 a1 = some (r1, r2)) :
  Calls Tryz.prog 40 #[u9000_, .int .i64 a1] w fun e w' => e = .returned (.int .i64 r1) ∧ Kd.R k60 60 w' w0.heap.size (fun k_ => (P0_ k_ ∨ w.heap.size ≤ k_)) u9000_ r2 ∧ Below w0.heap.size w0 w' ∧ Kept w w' (fun k_ => P0_ k_) := by
 have HO0 := aM_ (show Kd.R k60 60 w w0.heap.size (fun k_ => (P0_ k_ ∨ w.heap.size ≤ k_)) u9000_ l0 from kM_ ho0 (fun k_ hk => (.inl hk)))
 have HK := aM_ (Kept.refl w (fun k_ => P0_ k_))
 have HW0 := aM_ hB.size
 have HB := aM_ hB
 clear hB
 have H : (wF35.l0 k l0 a1 0) = some (r1, r2) := h
 clear h
 have H' := aM_ H
 clear H
 go_enter Tryz.func40, Tryz.ntmps40
 go_wp2
 go_loopg [1, 5] k (fun kq v1 v5 w' => ∃ (x0_1 : List (S60)) (x1_1 : Int) (x5_1 : Int), v1 = .int .i64 x1_1 ∧ v5 = .int .i64 x5_1 ∧ Aside0 (wF35.l0 kq x0_1 x1_1 x5_1 = some (r1, r2)) ∧ Aside0 (kq ≤ k) ∧ Aside0 (Kd.R k60 60 w' w0.heap.size (fun k_ => (P0_ k_ ∨ w.heap.size ≤ k_)) u9000_ x0_1) ∧ Aside0 (Kept w w' (fun k_ => P0_ k_)) ∧ Aside0 (Below w0.heap.size w0 w'))
 case atStart => exact ⟨(l0), (a1), (0), (by rfl), (by rfl), H', ⟨Nat.le_refl _⟩, ⟨HO0.out⟩, ⟨by repeat (first | (with_reducible first | exact HK.out | apply Kept.alloc | apply Kept.drewN | apply Kept.drew) | exact HK.out)⟩, ⟨HB.out⟩⟩
 clear H'
 try clear p2
 obtain ⟨x0_1, x1_1, x5_1, rfl, rfl, HA, HK1, HO_0, HK, HB⟩ := hrel
 cases gk with
 | zero => exact absurd HA.out (by simp [wF35.l0])
 | succ k1 =>
  have H := HA.out
  clear HA
  simp only [wF35.l0] at H
  by_cases c3 : x5_1 < (x0_1.length : Int)
  rotate_left
  ·
   rw [if_neg c3] at H
   have c3b0 := dF_ c3
   clear c3
   simp only [Option.some.injEq, Prod.mk.injEq] at H
   obtain ⟨rfl, rfl⟩ := H
   obtain ⟨Ao17, co17, eo17⟩ := kS_ HO_0.out
   subst eo17
   go_wp2
   go_ret
   exact ⟨by rfl, by exact HO_0.out, by exact HB.out, by repeat (first | (with_reducible first | exact HK.out | apply Kept.alloc | apply Kept.drewN | apply Kept.drew) | exact HK.out)⟩
  rw [if_pos c3] at H
  have c3b0 := dT_ c3
  clear c3
  replace H := oB_.mp H
  obtain ⟨t533, A40, H⟩ := H
  try dsimp only at H
  have A4 := aM_ A40
  clear A40
  by_cases c5 : 0 ≤ x5_1
  rotate_left
  ·
   rw [if_neg c5] at H
   exact absurd H (by simp)
  rw [if_pos c5] at H
  have c5b0 := dT_ c5
  clear c5
  obtain ⟨y534, hy534⟩ : ∃ y_ : List (S60), y_ = (x0_1.set (x5_1 : Int).toNat (⟨t533, (rd_T60 x0_1 x5_1).f1, (rd_T60 x0_1 x5_1).f2⟩ : S60)) := ⟨_, rfl⟩
  replace H : ((some (y534.set (x5_1 : Int).toNat (⟨(rd_T60 y534 x5_1).f0, wrap64 (x1_1 + 1), (rd_T60 y534 x5_1).f2⟩ : S60) : List (S60))).bind fun y535 => (wF35.l0 k1 (y535.set (x5_1 : Int).toNat (⟨(rd_T60 y535 x5_1).f0, (rd_T60 y535 x5_1).f1, ((Int.tmod (wrap64 ((wrap64 (x1_1 + 1)) + 1)) 3) == 0)⟩ : S60)) (wrap64 ((wrap64 ((wrap64 (x1_1 + 1)) + 1)) + 1)) (wrap64 (x5_1 + 1)))) = some (r1, r2) := by (try rw [hy534]); first | with_reducible exact H | with_reducible exact oS_ H | exact H
  have Ny534 := aM_ hy534
  clear hy534
  obtain ⟨y535, hy535⟩ : ∃ y_ : List (S60), y_ = (y534.set (x5_1 : Int).toNat (⟨(rd_T60 y534 x5_1).f0, wrap64 (x1_1 + 1), (rd_T60 y534 x5_1).f2⟩ : S60)) := ⟨_, rfl⟩
  replace H : (wF35.l0 k1 (y535.set (x5_1 : Int).toNat (⟨(rd_T60 y535 x5_1).f0, (rd_T60 y535 x5_1).f1, ((Int.tmod (wrap64 ((wrap64 (x1_1 + 1)) + 1)) 3) == 0)⟩ : S60)) (wrap64 ((wrap64 ((wrap64 (x1_1 + 1)) + 1)) + 1)) (wrap64 (x5_1 + 1))) = some (r1, r2) := by (try rw [hy535]); first | with_reducible exact H | with_reducible exact oS_ H | exact H
  have Ny535 := aM_ hy535
  clear hy535
  obtain ⟨y536, hy536⟩ : ∃ y_ : List (S60), y_ = (y535.set (x5_1 : Int).toNat (⟨(rd_T60 y535 x5_1).f0, (rd_T60 y535 x5_1).f1, ((Int.tmod (wrap64 ((wrap64 (x1_1 + 1)) + 1)) 3) == 0)⟩ : S60)) := ⟨_, rfl⟩
  replace H : (wF35.l0 k1 y536 (wrap64 ((wrap64 ((wrap64 (x1_1 + 1)) + 1)) + 1)) (wrap64 (x5_1 + 1))) = some (r1, r2) := by (try rw [hy536]); first | with_reducible exact H | with_reducible exact oS_ H | exact H
  have Ny536 := aM_ hy536
  clear hy536
  have H' := aM_ H
  clear H
  obtain ⟨Ao9, co9, eo9⟩ := kS_ HO_0.out
  subst eo9
  go_wp2_with (first | (refine gs_ 15 Tryz.func70 #[.int .i64 x1_1] ?_; (with_reducible refine (wF37.calls k1 x1_1 t533 _ A4.out).mono ?_); rintro e w10 ⟨rfl, hb⟩; refine ⟨_, rfl, ?_⟩; replace HO_0 := k9_ HO_0 hb; replace HK := aM_ (Kept.below (S := (fun k_ => P0_ k_)) (by repeat (first | (with_reducible first | exact HK.out | apply Kept.alloc | apply Kept.drewN | apply Kept.drew) | exact HK.out)) hb); replace HB := b4_ HB hb; (try clear hb); have p6 : 0 ≤ (x5_1 : Int) := oD_ ‹_›; have q6 : (x5_1 : Int) < ((x0_1.length : Int) : Int) := oD_ ‹_›; obtain ⟨go6, co6, eo6, gb6, gl6, cl6, HG6⟩ := Kd.R_form HO_0.out (by omega); (cases eo6); have GB6 := aM_ gb6; have GG6 := aM_ HG6; clear gb6 gl6 HG6; have HMgo6 := aM_ (show (P0_ go6 ∨ w.heap.size ≤ go6) from (HO_0.out.1 _ rfl)); obtain ⟨ce6, hcl6, hM6, hcc6, hfr6⟩ := Kd.R_elem HO_0.out z60 (x5_1 : Int) p6 q6; obtain rfl := k60_openM hM6; have hx6_0 : w10.cell? ⟨go6, (x5_1 : Int).toNat * 3, none⟩ = some (.string ((rd_T60 x0_1 x5_1).f0)) := hcc6 0 _ rfl; have hx6_1 : w10.cell? ⟨go6, (x5_1 : Int).toNat * 3 + 1, none⟩ = some (.int .i64 ((rd_T60 x0_1 x5_1).f1)) := hcc6 1 _ rfl; have hx6_2 : w10.cell? ⟨go6, (x5_1 : Int).toNat * 3 + 2, none⟩ = some (.bool ((rd_T60 x0_1 x5_1).f2)) := hcc6 2 _ rfl; have hf6_0 : w10.frozen? ⟨go6, (x5_1 : Int).toNat * 3, none⟩ = false := hfr6 0; have hf6_1 : w10.frozen? ⟨go6, (x5_1 : Int).toNat * 3 + 1, none⟩ = false := hfr6 1; have hf6_2 : w10.frozen? ⟨go6, (x5_1 : Int).toNat * 3 + 2, none⟩ = false := hfr6 2; clear hcl6 hcc6 hfr6 hM6; replace p6 := eq_true p6; replace q6 := eq_true q6; have HX11 := aM_ (show Kd.R k60 60 w10 w0.heap.size (fun k_ => (P0_ k_ ∨ w.heap.size ≤ k_)) (.slice (some ⟨go6, 0, none⟩) x0_1.length co9) x0_1 from HO_0.out); obtain ⟨ce11, hcl11, hM11, hcc11, hfr11⟩ := Kd.R_elem HX11.out z60 (x5_1 : Int) (oD_ ‹_›) (by have h_ : (x5_1 : Int) < ((x0_1.length : Int) : Int) := oD_ ‹_›; exact h_); obtain rfl := k60_openM hM11; have HP11 := Kd.R_seg HX11.out (x5_1 : Int) (oD_ ‹_›) (by have h_ : (x5_1 : Int) < ((x0_1.length : Int) : Int) := oD_ ‹_›; exact h_) (seg := [.string t533]) (j := 0) hcl11 hcc11 (show 1 ≤ 3 from by decide) (x' := (⟨t533, (rd_T60 x0_1 x5_1).f1, (rd_T60 x0_1 x5_1).f2⟩ : S60)) (k60_mkM _ _ _ (⟨t533, (rd_T60 x0_1 x5_1).f1, (rd_T60 x0_1 x5_1).f2⟩ : S60) ) (fun _ hk => hk); have hx11_0 := hcc11 0 _ rfl; (try simp only [show (k60).sz = 3 from rfl, Nat.mul_one, Nat.add_zero] at hx11_0); have hf11_0 := hfr11 0; (try simp only [show (k60).sz = 3 from rfl, Nat.mul_one, Nat.add_zero] at hf11_0); clear hcl11 hcc11 hfr11 hM11) | ((with_reducible refine gate_store (t := 9) (p := 17) rfl ?_); refine store_event (t := 9) (p := 17) (v := ?vo_w12) (w1 := (w10.setCell ⟨go6, (x5_1 : Int).toNat * 3, none⟩ (.string t533))) ?hg ?ho ?hn ?hr ?_; (case ho => rfl); (case hg => rfl); (case hn => rfl); (case hr => (go_simp; done)); intro w12 hw; have hg : w10.grownBy w12 (some go6) := (by rw [hw]; exact HP11.2); have hp_ : Kd.R k60 60 w12 w0.heap.size (fun k_ => (P0_ k_ ∨ w.heap.size ≤ k_)) (.slice (some ⟨go6, 0, none⟩) x0_1.length co9) y534 := (by rw [hw, Ny534.out]; exact HP11.1); clear HP11; replace HB := aM_ ((by rw [hw]; exact bS_ (HB.out) GB6.out : Below w0.heap.size w0 w12)); replace HK := aM_ (Kept.of_grown (S := (fun k_ => P0_ k_)) hg (by repeat (first | (with_reducible first | exact HK.out | apply Kept.alloc | apply Kept.drewN | apply Kept.drew) | exact HK.out)) (fun k_ e_ => (HO_0.out.1 k_ e_))); replace HO_0 := aM_ (hp_); clear hg hw hp_; have p7 : 0 ≤ (x5_1 : Int) := oD_ ‹_›; have q7 : (x5_1 : Int) < ((x0_1.length : Int) : Int) := oD_ ‹_›; obtain ⟨ce7, hcl7, hM7, hcc7, hfr7⟩ := Kd.R_elem HO_0.out z60 (x5_1 : Int) p7 q7; obtain rfl := k60_openM hM7; have hx7_0 : w12.cell? ⟨go6, (x5_1 : Int).toNat * 3, none⟩ = some (.string ((rd_T60 y534 x5_1).f0)) := hcc7 0 _ rfl; have hx7_1 : w12.cell? ⟨go6, (x5_1 : Int).toNat * 3 + 1, none⟩ = some (.int .i64 ((rd_T60 y534 x5_1).f1)) := hcc7 1 _ rfl; have hx7_2 : w12.cell? ⟨go6, (x5_1 : Int).toNat * 3 + 2, none⟩ = some (.bool ((rd_T60 y534 x5_1).f2)) := hcc7 2 _ rfl; have hf7_0 : w12.frozen? ⟨go6, (x5_1 : Int).toNat * 3, none⟩ = false := hfr7 0; have hf7_1 : w12.frozen? ⟨go6, (x5_1 : Int).toNat * 3 + 1, none⟩ = false := hfr7 1; have hf7_2 : w12.frozen? ⟨go6, (x5_1 : Int).toNat * 3 + 2, none⟩ = false := hfr7 2; clear hcl7 hcc7 hfr7 hM7; replace p7 := eq_true p7; replace q7 := eq_true q7; have HX13 := aM_ (show Kd.R k60 60 w12 w0.heap.size (fun k_ => (P0_ k_ ∨ w.heap.size ≤ k_)) (.slice (some ⟨go6, 0, none⟩) x0_1.length co9) y534 from HO_0.out); obtain ⟨ce13, hcl13, hM13, hcc13, hfr13⟩ := Kd.R_elem HX13.out z60 (x5_1 : Int) (oD_ ‹_›) (by have h_ : (x5_1 : Int) < ((x0_1.length : Int) : Int) := oD_ ‹_›; exact h_); obtain rfl := k60_openM hM13; have HP13 := Kd.R_seg HX13.out (x5_1 : Int) (oD_ ‹_›) (by have h_ : (x5_1 : Int) < ((x0_1.length : Int) : Int) := oD_ ‹_›; exact h_) (seg := [.int .i64 (wrap64 (x1_1 + 1))]) (j := 1) hcl13 hcc13 (show 2 ≤ 3 from by decide) (x' := (⟨(rd_T60 y534 x5_1).f0, wrap64 (x1_1 + 1), (rd_T60 y534 x5_1).f2⟩ : S60)) (k60_mkM _ _ _ (⟨(rd_T60 y534 x5_1).f0, wrap64 (x1_1 + 1), (rd_T60 y534 x5_1).f2⟩ : S60) ) (fun _ hk => hk); have hx13_1 := hcc13 1 _ rfl; (try simp only [show (k60).sz = 3 from rfl, Nat.mul_one, Nat.add_zero] at hx13_1); have hf13_1 := hfr13 1; (try simp only [show (k60).sz = 3 from rfl, Nat.mul_one, Nat.add_zero] at hf13_1); clear hcl13 hcc13 hfr13 hM13) | ((with_reducible refine gate_store (t := 3) (p := 24) rfl ?_); refine store_event (t := 3) (p := 24) (v := ?vo_w14) (w1 := (w12.setCell ⟨go6, (x5_1 : Int).toNat * 3 + 1, none⟩ (.int .i64 (wrap64 (x1_1 + 1))))) ?hg ?ho ?hn ?hr ?_; (case ho => rfl); (case hg => rfl); (case hn => rfl); (case hr => (go_simp; done)); intro w14 hw; have hg : w12.grownBy w14 (some go6) := (by rw [hw]; exact HP13.2); have hp_ : Kd.R k60 60 w14 w0.heap.size (fun k_ => (P0_ k_ ∨ w.heap.size ≤ k_)) (.slice (some ⟨go6, 0, none⟩) x0_1.length co9) y535 := (by rw [hw, Ny535.out]; exact HP13.1); clear HP13; replace HB := aM_ ((by rw [hw]; exact bS_ (HB.out) GB6.out : Below w0.heap.size w0 w14)); replace HK := aM_ (Kept.of_grown (S := (fun k_ => P0_ k_)) hg (by repeat (first | (with_reducible first | exact HK.out | apply Kept.alloc | apply Kept.drewN | apply Kept.drew) | exact HK.out)) (fun k_ e_ => (HO_0.out.1 k_ e_))); replace HO_0 := aM_ (hp_); clear hg hw hp_; have p8 : 0 ≤ (x5_1 : Int) := oD_ ‹_›; have q8 : (x5_1 : Int) < ((x0_1.length : Int) : Int) := oD_ ‹_›; obtain ⟨ce8, hcl8, hM8, hcc8, hfr8⟩ := Kd.R_elem HO_0.out z60 (x5_1 : Int) p8 q8; obtain rfl := k60_openM hM8; have hx8_0 : w14.cell? ⟨go6, (x5_1 : Int).toNat * 3, none⟩ = some (.string ((rd_T60 y535 x5_1).f0)) := hcc8 0 _ rfl; have hx8_1 : w14.cell? ⟨go6, (x5_1 : Int).toNat * 3 + 1, none⟩ = some (.int .i64 ((rd_T60 y535 x5_1).f1)) := hcc8 1 _ rfl; have hx8_2 : w14.cell? ⟨go6, (x5_1 : Int).toNat * 3 + 2, none⟩ = some (.bool ((rd_T60 y535 x5_1).f2)) := hcc8 2 _ rfl; have hf8_0 : w14.frozen? ⟨go6, (x5_1 : Int).toNat * 3, none⟩ = false := hfr8 0; have hf8_1 : w14.frozen? ⟨go6, (x5_1 : Int).toNat * 3 + 1, none⟩ = false := hfr8 1; have hf8_2 : w14.frozen? ⟨go6, (x5_1 : Int).toNat * 3 + 2, none⟩ = false := hfr8 2; clear hcl8 hcc8 hfr8 hM8; replace p8 := eq_true p8; replace q8 := eq_true q8; have HX15 := aM_ (show Kd.R k60 60 w14 w0.heap.size (fun k_ => (P0_ k_ ∨ w.heap.size ≤ k_)) (.slice (some ⟨go6, 0, none⟩) x0_1.length co9) y535 from HO_0.out); obtain ⟨ce15, hcl15, hM15, hcc15, hfr15⟩ := Kd.R_elem HX15.out z60 (x5_1 : Int) (oD_ ‹_›) (by have h_ : (x5_1 : Int) < ((x0_1.length : Int) : Int) := oD_ ‹_›; exact h_); obtain rfl := k60_openM hM15; have HP15 := Kd.R_seg HX15.out (x5_1 : Int) (oD_ ‹_›) (by have h_ : (x5_1 : Int) < ((x0_1.length : Int) : Int) := oD_ ‹_›; exact h_) (seg := [.bool ((Int.tmod (wrap64 ((wrap64 (x1_1 + 1)) + 1)) 3) == 0)]) (j := 2) hcl15 hcc15 (show 3 ≤ 3 from by decide) (x' := (⟨(rd_T60 y535 x5_1).f0, (rd_T60 y535 x5_1).f1, ((Int.tmod (wrap64 ((wrap64 (x1_1 + 1)) + 1)) 3) == 0)⟩ : S60)) (k60_mkM _ _ _ (⟨(rd_T60 y535 x5_1).f0, (rd_T60 y535 x5_1).f1, ((Int.tmod (wrap64 ((wrap64 (x1_1 + 1)) + 1)) 3) == 0)⟩ : S60) ) (fun _ hk => hk); have hx15_2 := hcc15 2 _ rfl; (try simp only [show (k60).sz = 3 from rfl, Nat.mul_one, Nat.add_zero] at hx15_2); have hf15_2 := hfr15 2; (try simp only [show (k60).sz = 3 from rfl, Nat.mul_one, Nat.add_zero] at hf15_2); clear hcl15 hcc15 hfr15 hM15) | ((with_reducible refine gate_store (t := 4) (p := 33) rfl ?_); refine store_event (t := 4) (p := 33) (v := ?vo_w16) (w1 := (w14.setCell ⟨go6, (x5_1 : Int).toNat * 3 + 2, none⟩ (.bool ((Int.tmod (wrap64 ((wrap64 (x1_1 + 1)) + 1)) 3) == 0)))) ?hg ?ho ?hn ?hr ?_; (case ho => rfl); (case hg => rfl); (case hn => rfl); (case hr => (go_simp; done)); intro w16 hw; have hg : w14.grownBy w16 (some go6) := (by rw [hw]; exact HP15.2); have hp_ : Kd.R k60 60 w16 w0.heap.size (fun k_ => (P0_ k_ ∨ w.heap.size ≤ k_)) (.slice (some ⟨go6, 0, none⟩) x0_1.length co9) y536 := (by rw [hw, Ny536.out]; exact HP15.1); clear HP15; replace HB := aM_ ((by rw [hw]; exact bS_ (HB.out) GB6.out : Below w0.heap.size w0 w16)); replace HK := aM_ (Kept.of_grown (S := (fun k_ => P0_ k_)) hg (by repeat (first | (with_reducible first | exact HK.out | apply Kept.alloc | apply Kept.drewN | apply Kept.drew) | exact HK.out)) (fun k_ e_ => (HO_0.out.1 k_ e_))); replace HO_0 := aM_ (hp_); clear hg hw hp_))
  go_roundg k1
  case measure => have := HK1.out; omega
  case rel => exact ⟨(y536), (wrap64 ((wrap64 ((wrap64 (x1_1 + 1)) + 1)) + 1)), (wrap64 (x5_1 + 1)), (by rfl), (by rfl), H', ⟨by have := HK1.out; omega⟩, ⟨HO_0.out⟩, ⟨by repeat (first | (with_reducible first | exact HK.out | apply Kept.alloc | apply Kept.drewN | apply Kept.drew) | exact HK.out)⟩, ⟨HB.out⟩⟩
def wF36.f (k : Nat) (l0_0 : List (S60)) (a1 : Int) : Option (Int × (List (S60))) := (wF35.f k l0_0 a1).bind fun bt538 => (some (bt538.1, bt538.2))
theorem wF36.mono : ∀ a0 a1 k, LeO (wF36.f k a0 a1) (wF36.f (k + 1) a0 a1) := by
 intro a0 a1 k
 unfold wF36.f
 repeat' with_reducible first | exact wF35.mono _ _ _ | exact l3_ _ | exact l0_ _ | refine l2_ ?_ ?_ | refine l1_ ?_ (fun _ => ?_)
theorem wF36.calls (k : Nat) (P0_0_ : Nat → Prop) (u9000_ : Value) (l0_0 : List (S60)) (a1 : Int) (r1 : Int) (r2 : List (S60)) (w0 w : World) (hB : Below w0.heap.size w0 w) (ho0_0 : Kd.R k60 60 w w0.heap.size P0_0_ u9000_ l0_0) (h : wF36.f k l0_0 a1 = some (r1, r2)) :
  Calls Tryz.prog 16 #[.agg #[u9000_], .int .i64 a1] w fun e w' => e = .returned (.int .i64 r1) ∧ Kd.R k60 60 w' w0.heap.size (fun k_ => (P0_0_ k_ ∨ w.heap.size ≤ k_)) u9000_ r2 ∧ Below w0.heap.size w0 w' ∧ Kept w w' (fun k_ => P0_0_ k_) := by
 have hu30 := Tryz.underlying30
 have HO0_0 := aM_ (show Kd.R k60 60 w w0.heap.size (fun k_ => (P0_0_ k_ ∨ w.heap.size ≤ k_)) u9000_ l0_0 from kM_ ho0_0 (fun k_ hk => (.inl hk)))
 have HK := aM_ (Kept.refl w (fun k_ => P0_0_ k_))
 have HW0 := aM_ hB.size
 have HB := aM_ hB
 clear hB
 have H : ((wF35.f k l0_0 a1).bind fun bt538 => (some (bt538.1, bt538.2))) = some (r1, r2) := h
 clear h
 replace H := oB_.mp H
 obtain ⟨⟨t538, t539⟩, A30, H⟩ := H
 try dsimp only at H
 have A3 := aM_ A30
 clear A30
 simp only [Option.some.injEq, Prod.mk.injEq] at H
 obtain ⟨rfl, rfl⟩ := H
 obtain ⟨Ao4, co4, eo4⟩ := kS_ HO0_0.out
 subst eo4
 go_enter Tryz.func16, Tryz.ntmps16
 go_wp2_with (first | (refine bx_ 2 #[.slice Ao4 l0_0.length co4] 30 ?_; intro gb537 hg w5 hbox hb; replace HO0_0 := k9_ HO0_0 hb; have BK537 := aM_ (hbox); have GW537 := aM_ ((by rw [hg]; exact (by exact HK.out.1) : w.heap.size ≤ gb537)); replace HK := aM_ (Kept.below (S := (fun k_ => P0_0_ k_)) (by repeat (first | (with_reducible first | exact HK.out | apply Kept.alloc | apply Kept.drewN | apply Kept.drew) | exact HK.out)) hb); have GW537 := aM_ ((by rw [hg]; exact (bZ_ HB.out) : w0.heap.size ≤ gb537)); replace HB := b4_ HB hb; clear hb hbox hg; have hcz6_0 := c0_ BK537; have hfz6_0 := bF_ BK537.out 0) | (refine gs_ 8 Tryz.func40 #[.slice Ao4 l0_0.length co4, .int .i64 a1] ?_; (with_reducible refine (wF35.calls k (fun k_ => some k_ = (.slice Ao4 l0_0.length co4 : Value).ownBlock) (.slice Ao4 l0_0.length co4) l0_0 a1 t538 t539 w0 _ HB.out ?side2 A3.out).mono ?_); (case side2 => exact Kd.R_tight rfl HO0_0.out); rintro e w7 ⟨rfl, hy0, hb, hkp⟩; refine ⟨_, rfl, ?_⟩; replace BK537 := aM_ (blk_kept BK537.out hkp (fun hs_ => (fun e_ => (k6_ HO0_0.out BK537.out (by decide)) e_) hs_)); replace HK := aM_ (Kept.then_ (S := (fun k_ => P0_0_ k_)) (by repeat (first | (with_reducible first | exact HK.out | apply Kept.alloc | apply Kept.drewN | apply Kept.drew | refine Kept.setCell ?_ (.inr GW537.out) _) | exact HK.out)) hkp (fun k_ hs_ => (fun e_ => (HO0_0.out.1 k_ e_.symm)) hs_)); replace HO0_0 := aM_ (Kd.R_reok rfl hy0 (fun k_ e_ => HO0_0.out.1 k_ e_)); replace HB := aM_ (hb); (try clear hb); (try clear hkp); (try clear hy0)))
 go_ret
 exact ⟨by rfl, by exact HO0_0.out, by exact HB.out, by repeat (first | (with_reducible first | exact HK.out | apply Kept.alloc | apply Kept.drewN | apply Kept.drew | refine Kept.setCell ?_ (.inr GW537.out) _) | exact HK.out)⟩
def wF33.l0 : Nat → List (S60) → Int → Int → Option (Int)
 | 0, _, _, _ => none
 | k + 1, x0, x1, x5 => if x5 < (x0.length : Int) then (if 0 ≤ x5 then ((wF37.f k x1).bind fun t747 => (if ((rd_T60 x0 x5).f0).toList = t747.toList then (if ((rd_T60 x0 x5).f1) = (wrap64 (x1 + 1)) then (if (((rd_T60 x0 x5).f2) != ((Int.tmod (wrap64 ((wrap64 (x1 + 1)) + 1)) 3) == 0)) = true then (some (-1)) else (wF33.l0 k x0 (wrap64 ((wrap64 ((wrap64 (x1 + 1)) + 1)) + 1)) (wrap64 (x5 + 1)))) else (some (-1))) else (some (-1)))) else (none)) else (some x1)
def wF33.f (k : Nat) (l0 : List (S60)) (a1 : Int) : Option (Int) := wF33.l0 k l0 a1 0
theorem wF33.mono_l : ∀ k, (∀ y0 y1 y2, LeO (wF33.l0 k y0 y1 y2) (wF33.l0 (k + 1) y0 y1 y2))
 | 0 => fun _ _ _ r h => by simp [wF33.l0] at h
 | k + 1 => by
  have ih0 := wF33.mono_l k
  intro y0 y1 y2
  unfold wF33.l0
  repeat' with_reducible first | exact ih0 _ _ _ | exact wF37.mono _ _ | exact l3_ _ | exact l0_ _ | refine l2_ ?_ ?_ | refine l1_ ?_ (fun _ => ?_)
theorem wF33.mono : ∀ a0 a1 k, LeO (wF33.f k a0 a1) (wF33.f (k + 1) a0 a1) := by
 intro a0 a1 k
 have ih0 := wF33.mono_l k
 unfold wF33.f
 repeat' with_reducible first | exact ih0 _ _ _ | exact wF37.mono _ _ | exact l3_ _ | exact l0_ _ | refine l2_ ?_ ?_ | refine l1_ ?_ (fun _ => ?_)
def wF33.T4 : Bool × List (List Nat × List Nat) := (true, [([], []), ([], []), ([0, 1], [0, 1]), ([2], [2]), ([3], [3]), ([], []), ([5], [5]), ([4, 6], [4, 6])])
def wF33.B4 : List Nat := [0, 0, 3, 7, 15, 0, 32, 127]
theorem wF33.tab4 : rtab .any (opsOf Tryz.f50 4) = wF33.T4 := by kernel_rfl
theorem wF33.bits4 : waitsOk wF33.T4.2 wF33.B4 = true := by kernel_rfl
theorem wF33.calls (k : Nat) (A0 : Option Addr) (c0 : Nat) (l0 : List (S60)) (a1 : Int) (r : Int) (w : World) (hr0 : Kd.C k60 w A0 l0.length l0) (hc0 : l0.length ≤ c0) (h : wF33.f k l0 a1 = some r) :
  Calls Tryz.prog 50 #[.slice A0 l0.length c0, .int .i64 a1] w fun e w' => e = .returned (.int .i64 r) ∧ Below w.heap.size w w' := by
 have HR0 := aM_ hr0
 have HC0 := aM_ hc0
 clear hr0 hc0
 have HB := aM_ (Below.refl w.heap.size w)
 have H : (wF33.l0 k l0 a1 0) = some r := h
 clear h
 have H' := aM_ H
 clear H
 go_enter Tryz.func50, Tryz.ntmps50
 go_wp2
 go_loopg [1, 5] k (fun kq v1 v5 w' => ∃ (x1_1 : Int) (x5_1 : Int), v1 = .int .i64 x1_1 ∧ v5 = .int .i64 x5_1 ∧ Aside0 (wF33.l0 kq l0 x1_1 x5_1 = some r) ∧ Aside0 (kq ≤ k) ∧ Aside0 (Below w.heap.size w w'))
 case atStart => exact ⟨(a1), (0), (by rfl), (by rfl), H', ⟨Nat.le_refl _⟩, ⟨HB.out⟩⟩
 clear H'
 try clear p2
 obtain ⟨x1_1, x5_1, rfl, rfl, HA, HK1, HB⟩ := hrel
 cases gk with
 | zero => exact absurd HA.out (by simp [wF33.l0])
 | succ k1 =>
  have H := HA.out
  clear HA
  simp only [wF33.l0] at H
  by_cases c3 : x5_1 < (l0.length : Int)
  rotate_left
  ·
   rw [if_neg c3] at H
   have c3b0 := dF_ c3
   clear c3
   obtain rfl := Option.some.inj H
   go_wp2
   go_ret
   exact ⟨by rfl, by exact HB.out⟩
  rw [if_pos c3] at H
  have c3b0 := dT_ c3
  clear c3
  by_cases c4 : 0 ≤ x5_1
  rotate_left
  ·
   rw [if_neg c4] at H
   exact absurd H (by simp)
  rw [if_pos c4] at H
  have c4b0 := dT_ c4
  clear c4
  replace H := oB_.mp H
  obtain ⟨t747, A50, H⟩ := H
  try dsimp only at H
  have A5 := aM_ A50
  clear A50
  by_cases c6 : ((rd_T60 l0 x5_1).f0).toList = t747.toList
  rotate_left
  ·
   rw [if_neg c6] at H
   have c6b0 : (((rd_T60 l0 x5_1).f0).toList == t747.toList) = false := beq_eq_false_iff_ne.mpr c6
   have c6b1 : (((rd_T60 l0 x5_1).f0).toList != t747.toList) = true := bne_iff_ne.mpr c6
   obtain rfl := Option.some.inj H
   try go_wp2
   replace HB := aM_ (bD_ HB.out)
   have p746 : 0 ≤ (x5_1 : Int) := oD_ ‹_›
   have q746 : x5_1 < (l0.length : Int) := oD_ ‹_›
   obtain ⟨ad746, e746, hx746_0, hx746_1, hx746_2⟩ := at_T60 HR0.out x5_1 p746 q746
   have hw746_2 := hx746_2
   have hw746_1 := hx746_1
   have hw746_0 := hx746_0
   cases e746
   replace hx746_0 := cb_ HB hx746_0
   replace hx746_1 := cb_ HB hx746_1
   replace hx746_2 := cb_ HB hx746_2
   replace p746 := eq_true p746
   replace q746 := eq_true q746
   refine start_ (n := 8) (S := fun w' => w'.cell? (ad746.add ((x5_1).toNat * 3)) = some (.string ((rd_T60 l0 x5_1).f0)) ∧ w'.cell? ⟨(ad746.add ((x5_1).toNat * 3)).block, (ad746.add ((x5_1).toNat * 3)).off + 1, none⟩ = some (.int .i64 ((rd_T60 l0 x5_1).f1)) ∧ w'.cell? ⟨(ad746.add ((x5_1).toNat * 3)).block, (ad746.add ((x5_1).toNat * 3)).off + 2, none⟩ = some (.bool ((rd_T60 l0 x5_1).f2))) (ds := []) #[fy, fy, fy, fy, fy, fy, fy, fy] (by kernel_rfl) rfl rfl ⟨(cb_ HB hw746_0), (cb_ HB hw746_1), (cb_ HB hw746_2)⟩ (fun hHeld => ?_); refine with_tabW wF33.tab4 wF33.bits4 (fun HT_ HW_ => ?_)
   generalize wr.drew = w15 at HB hx746_0 hx746_1 hx746_2 hHeld ⊢
   refine pu_ HT_ 0 12 #[ty, fy, fy, fy, fy, fy, fy, fy] ?_
   refine pu_ HT_ 1 13 #[ty, ty, fy, fy, fy, fy, fy, fy] ?_
   refine pu_ HT_ 2 14 #[ty, ty, ty, fy, fy, fy, fy, fy] ?_
   refine pu_ HT_ 3 15 #[ty, ty, ty, ty, fy, fy, fy, fy] ?_
   refine pu_ HT_ 5 17 #[ty, ty, ty, ty, fy, ty, fy, fy] ?_
   refine tk_ HT_ HW_ 4 16 #[ty, ty, ty, ty, ty, ty, fy, fy] hHeld ?_ (hr := by rintro w' ⟨s0, s1, s2⟩; go_simp; with_reducible rfl)
   refine one_ (i := 6) (N := some 18) #[ty, ty, ty, ty, ty, ty, ty, fy] rfl rfl (one_of HT_.out (by kernel_rfl)) (by decide) (fun K hK => ?_)
   refine goes_ Tryz.func70 (by kernel_rfl) rfl #[.int .i64 x1_1] (by rfl) rfl rfl (by (try simp only [sD_, sE_, sF_]); rfl) ?_
   with_reducible refine (wF37.calls k1 x1_1 t747 _ A5.out).mono ?_
   rintro e w16 ⟨rfl, hb⟩
   refine ⟨_, rfl, ?_⟩
   replace HB := b4_ HB hb
   (try clear hb)
   refine hK.out _ _ ⟨(cb_ HB hw746_0), (cb_ HB hw746_1), (cb_ HB hw746_2)⟩ (fun hHeld => ?_)
   clear hK K
   refine norm_ (by show Act.put _ (some 18) _ = _; simp only [Act.put, sA_, sB_, sC_, i6_, i3_]; rfl) ?_
   refine pu_ HT_ 7 19 #[ty, ty, ty, ty, ty, ty, ty, ty] ?_
   refine done_ (done_of HT_.out (by kernel_rfl)) ?_
   try go_wp2
   go_ret
   exact ⟨by rfl, by exact HB.out⟩
  rw [if_pos c6] at H
  have c6b0 : (((rd_T60 l0 x5_1).f0).toList == t747.toList) = true := beq_iff_eq.mpr c6
  have c6b1 : (((rd_T60 l0 x5_1).f0).toList != t747.toList) = false := bne_eq_false_iff_eq.mpr c6
  clear c6
  by_cases c7 : ((rd_T60 l0 x5_1).f1) = (wrap64 (x1_1 + 1))
  rotate_left
  ·
   rw [if_neg c7] at H
   have c7b0 : (((rd_T60 l0 x5_1).f1) == (wrap64 (x1_1 + 1))) = false := beq_eq_false_iff_ne.mpr c7
   have c7b1 : (((rd_T60 l0 x5_1).f1) != (wrap64 (x1_1 + 1))) = true := bne_iff_ne.mpr c7
   obtain rfl := Option.some.inj H
   try go_wp2
   replace HB := aM_ (bD_ HB.out)
   have p746 : 0 ≤ (x5_1 : Int) := oD_ ‹_›
   have q746 : x5_1 < (l0.length : Int) := oD_ ‹_›
   obtain ⟨ad746, e746, hx746_0, hx746_1, hx746_2⟩ := at_T60 HR0.out x5_1 p746 q746
   have hw746_2 := hx746_2
   have hw746_1 := hx746_1
   have hw746_0 := hx746_0
   cases e746
   replace hx746_0 := cb_ HB hx746_0
   replace hx746_1 := cb_ HB hx746_1
   replace hx746_2 := cb_ HB hx746_2
   replace p746 := eq_true p746
   replace q746 := eq_true q746
   refine start_ (n := 8) (S := fun w' => w'.cell? (ad746.add ((x5_1).toNat * 3)) = some (.string ((rd_T60 l0 x5_1).f0)) ∧ w'.cell? ⟨(ad746.add ((x5_1).toNat * 3)).block, (ad746.add ((x5_1).toNat * 3)).off + 1, none⟩ = some (.int .i64 ((rd_T60 l0 x5_1).f1)) ∧ w'.cell? ⟨(ad746.add ((x5_1).toNat * 3)).block, (ad746.add ((x5_1).toNat * 3)).off + 2, none⟩ = some (.bool ((rd_T60 l0 x5_1).f2))) (ds := []) #[fy, fy, fy, fy, fy, fy, fy, fy] (by kernel_rfl) rfl rfl ⟨(cb_ HB hw746_0), (cb_ HB hw746_1), (cb_ HB hw746_2)⟩ (fun hHeld => ?_); refine with_tabW wF33.tab4 wF33.bits4 (fun HT_ HW_ => ?_)
   generalize wr.drew = w13 at HB hx746_0 hx746_1 hx746_2 hHeld ⊢
   refine pu_ HT_ 0 12 #[ty, fy, fy, fy, fy, fy, fy, fy] ?_
   refine pu_ HT_ 1 13 #[ty, ty, fy, fy, fy, fy, fy, fy] ?_
   refine pu_ HT_ 2 14 #[ty, ty, ty, fy, fy, fy, fy, fy] ?_
   refine pu_ HT_ 3 15 #[ty, ty, ty, ty, fy, fy, fy, fy] ?_
   refine pu_ HT_ 5 17 #[ty, ty, ty, ty, fy, ty, fy, fy] ?_
   refine tk_ HT_ HW_ 4 16 #[ty, ty, ty, ty, ty, ty, fy, fy] hHeld ?_ (hr := by rintro w' ⟨s0, s1, s2⟩; go_simp; with_reducible rfl)
   refine one_ (i := 6) (N := some 18) #[ty, ty, ty, ty, ty, ty, ty, fy] rfl rfl (one_of HT_.out (by kernel_rfl)) (by decide) (fun K hK => ?_)
   refine goes_ Tryz.func70 (by kernel_rfl) rfl #[.int .i64 x1_1] (by rfl) rfl rfl (by (try simp only [sD_, sE_, sF_]); rfl) ?_
   with_reducible refine (wF37.calls k1 x1_1 t747 _ A5.out).mono ?_
   rintro e w14 ⟨rfl, hb⟩
   refine ⟨_, rfl, ?_⟩
   replace HB := b4_ HB hb
   (try clear hb)
   refine hK.out _ _ ⟨(cb_ HB hw746_0), (cb_ HB hw746_1), (cb_ HB hw746_2)⟩ (fun hHeld => ?_)
   clear hK K
   refine norm_ (by show Act.put _ (some 18) _ = _; simp only [Act.put, sA_, sB_, sC_, i6_, i3_]; rfl) ?_
   refine pu_ HT_ 7 19 #[ty, ty, ty, ty, ty, ty, ty, ty] ?_
   refine done_ (done_of HT_.out (by kernel_rfl)) ?_
   have p748 : 0 ≤ (x5_1 : Int) := oD_ ‹_›
   have q748 : x5_1 < (l0.length : Int) := oD_ ‹_›
   obtain ⟨ad748, e748, hx748_0, hx748_1, hx748_2⟩ := at_T60 HR0.out x5_1 p748 q748
   obtain rfl : ad746 = ad748 := (by injection e748)
   replace hx748_0 := cb_ HB hx748_0
   replace hx748_1 := cb_ HB hx748_1
   replace hx748_2 := cb_ HB hx748_2
   replace p748 := eq_true p748
   replace q748 := eq_true q748
   try go_wp2
   go_ret
   exact ⟨by rfl, by exact HB.out⟩
  rw [if_pos c7] at H
  have c7b0 : (((rd_T60 l0 x5_1).f1) == (wrap64 (x1_1 + 1))) = true := beq_iff_eq.mpr c7
  have c7b1 : (((rd_T60 l0 x5_1).f1) != (wrap64 (x1_1 + 1))) = false := bne_eq_false_iff_eq.mpr c7
  clear c7
  by_cases c8 : (((rd_T60 l0 x5_1).f2) != ((Int.tmod (wrap64 ((wrap64 (x1_1 + 1)) + 1)) 3) == 0)) = true
  ·
   rw [if_pos c8] at H
   have c8b0 : (((rd_T60 l0 x5_1).f2) != ((Int.tmod (wrap64 ((wrap64 (x1_1 + 1)) + 1)) 3) == 0)) = true := c8
   (try (have c8b1 : decide (((rd_T60 l0 x5_1).f2) = ((Int.tmod (wrap64 ((wrap64 (x1_1 + 1)) + 1)) 3) == 0)) = false := by simpa using c8))
   (try (have c8b2 : (((rd_T60 l0 x5_1).f2) == ((Int.tmod (wrap64 ((wrap64 (x1_1 + 1)) + 1)) 3) == 0)) = false := by simpa using c8))
   (try (have c8b3 : ¬ (((rd_T60 l0 x5_1).f2) = ((Int.tmod (wrap64 ((wrap64 (x1_1 + 1)) + 1)) 3) == 0)) := by simpa using c8))
   clear c8
   obtain rfl := Option.some.inj H
   try go_wp2
   replace HB := aM_ (bD_ HB.out)
   have p746 : 0 ≤ (x5_1 : Int) := oD_ ‹_›
   have q746 : x5_1 < (l0.length : Int) := oD_ ‹_›
   obtain ⟨ad746, e746, hx746_0, hx746_1, hx746_2⟩ := at_T60 HR0.out x5_1 p746 q746
   have hw746_2 := hx746_2
   have hw746_1 := hx746_1
   have hw746_0 := hx746_0
   cases e746
   replace hx746_0 := cb_ HB hx746_0
   replace hx746_1 := cb_ HB hx746_1
   replace hx746_2 := cb_ HB hx746_2
   replace p746 := eq_true p746
   replace q746 := eq_true q746
   refine start_ (n := 8) (S := fun w' => w'.cell? (ad746.add ((x5_1).toNat * 3)) = some (.string ((rd_T60 l0 x5_1).f0)) ∧ w'.cell? ⟨(ad746.add ((x5_1).toNat * 3)).block, (ad746.add ((x5_1).toNat * 3)).off + 1, none⟩ = some (.int .i64 ((rd_T60 l0 x5_1).f1)) ∧ w'.cell? ⟨(ad746.add ((x5_1).toNat * 3)).block, (ad746.add ((x5_1).toNat * 3)).off + 2, none⟩ = some (.bool ((rd_T60 l0 x5_1).f2))) (ds := []) #[fy, fy, fy, fy, fy, fy, fy, fy] (by kernel_rfl) rfl rfl ⟨(cb_ HB hw746_0), (cb_ HB hw746_1), (cb_ HB hw746_2)⟩ (fun hHeld => ?_); refine with_tabW wF33.tab4 wF33.bits4 (fun HT_ HW_ => ?_)
   generalize wr.drew = w9 at HB hx746_0 hx746_1 hx746_2 hHeld ⊢
   refine pu_ HT_ 0 12 #[ty, fy, fy, fy, fy, fy, fy, fy] ?_
   refine pu_ HT_ 1 13 #[ty, ty, fy, fy, fy, fy, fy, fy] ?_
   refine pu_ HT_ 2 14 #[ty, ty, ty, fy, fy, fy, fy, fy] ?_
   refine pu_ HT_ 3 15 #[ty, ty, ty, ty, fy, fy, fy, fy] ?_
   refine pu_ HT_ 5 17 #[ty, ty, ty, ty, fy, ty, fy, fy] ?_
   refine tk_ HT_ HW_ 4 16 #[ty, ty, ty, ty, ty, ty, fy, fy] hHeld ?_ (hr := by rintro w' ⟨s0, s1, s2⟩; go_simp; with_reducible rfl)
   refine one_ (i := 6) (N := some 18) #[ty, ty, ty, ty, ty, ty, ty, fy] rfl rfl (one_of HT_.out (by kernel_rfl)) (by decide) (fun K hK => ?_)
   refine goes_ Tryz.func70 (by kernel_rfl) rfl #[.int .i64 x1_1] (by rfl) rfl rfl (by (try simp only [sD_, sE_, sF_]); rfl) ?_
   with_reducible refine (wF37.calls k1 x1_1 t747 _ A5.out).mono ?_
   rintro e w10 ⟨rfl, hb⟩
   refine ⟨_, rfl, ?_⟩
   replace HB := b4_ HB hb
   (try clear hb)
   refine hK.out _ _ ⟨(cb_ HB hw746_0), (cb_ HB hw746_1), (cb_ HB hw746_2)⟩ (fun hHeld => ?_)
   clear hK K
   refine norm_ (by show Act.put _ (some 18) _ = _; simp only [Act.put, sA_, sB_, sC_, i6_, i3_]; rfl) ?_
   refine pu_ HT_ 7 19 #[ty, ty, ty, ty, ty, ty, ty, ty] ?_
   refine done_ (done_of HT_.out (by kernel_rfl)) ?_
   have p748 : 0 ≤ (x5_1 : Int) := oD_ ‹_›
   have q748 : x5_1 < (l0.length : Int) := oD_ ‹_›
   obtain ⟨ad748, e748, hx748_0, hx748_1, hx748_2⟩ := at_T60 HR0.out x5_1 p748 q748
   obtain rfl : ad746 = ad748 := (by injection e748)
   replace hx748_0 := cb_ HB hx748_0
   replace hx748_1 := cb_ HB hx748_1
   replace hx748_2 := cb_ HB hx748_2
   replace p748 := eq_true p748
   replace q748 := eq_true q748
   have p749 : 0 ≤ (x5_1 : Int) := oD_ ‹_›
   have q749 : x5_1 < (l0.length : Int) := oD_ ‹_›
   obtain ⟨ad749, e749, hx749_0, hx749_1, hx749_2⟩ := at_T60 HR0.out x5_1 p749 q749
   obtain rfl : ad746 = ad749 := (by injection e749)
   replace hx749_0 := cb_ HB hx749_0
   replace hx749_1 := cb_ HB hx749_1
   replace hx749_2 := cb_ HB hx749_2
   replace p749 := eq_true p749
   replace q749 := eq_true q749
   try go_wp2
   go_ret
   exact ⟨by rfl, by exact HB.out⟩
  rw [if_neg c8] at H
  have c8b0 : (((rd_T60 l0 x5_1).f2) != ((Int.tmod (wrap64 ((wrap64 (x1_1 + 1)) + 1)) 3) == 0)) = false := by simpa using c8
  (try (have c8b1 : decide (((rd_T60 l0 x5_1).f2) = ((Int.tmod (wrap64 ((wrap64 (x1_1 + 1)) + 1)) 3) == 0)) = true := by simpa using c8))
  (try (have c8b2 : (((rd_T60 l0 x5_1).f2) == ((Int.tmod (wrap64 ((wrap64 (x1_1 + 1)) + 1)) 3) == 0)) = true := by simpa using c8))
  clear c8
  have H' := aM_ H
  clear H
  try go_wp2
  replace HB := aM_ (bD_ HB.out)
  have p746 : 0 ≤ (x5_1 : Int) := oD_ ‹_›
  have q746 : x5_1 < (l0.length : Int) := oD_ ‹_›
  obtain ⟨ad746, e746, hx746_0, hx746_1, hx746_2⟩ := at_T60 HR0.out x5_1 p746 q746
  have hw746_2 := hx746_2
  have hw746_1 := hx746_1
  have hw746_0 := hx746_0
  cases e746
  replace hx746_0 := cb_ HB hx746_0
  replace hx746_1 := cb_ HB hx746_1
  replace hx746_2 := cb_ HB hx746_2
  replace p746 := eq_true p746
  replace q746 := eq_true q746
  refine start_ (n := 8) (S := fun w' => w'.cell? (ad746.add ((x5_1).toNat * 3)) = some (.string ((rd_T60 l0 x5_1).f0)) ∧ w'.cell? ⟨(ad746.add ((x5_1).toNat * 3)).block, (ad746.add ((x5_1).toNat * 3)).off + 1, none⟩ = some (.int .i64 ((rd_T60 l0 x5_1).f1)) ∧ w'.cell? ⟨(ad746.add ((x5_1).toNat * 3)).block, (ad746.add ((x5_1).toNat * 3)).off + 2, none⟩ = some (.bool ((rd_T60 l0 x5_1).f2))) (ds := []) #[fy, fy, fy, fy, fy, fy, fy, fy] (by kernel_rfl) rfl rfl ⟨(cb_ HB hw746_0), (cb_ HB hw746_1), (cb_ HB hw746_2)⟩ (fun hHeld => ?_); refine with_tabW wF33.tab4 wF33.bits4 (fun HT_ HW_ => ?_)
  generalize wr.drew = w11 at HB hx746_0 hx746_1 hx746_2 hHeld ⊢
  refine pu_ HT_ 0 12 #[ty, fy, fy, fy, fy, fy, fy, fy] ?_
  refine pu_ HT_ 1 13 #[ty, ty, fy, fy, fy, fy, fy, fy] ?_
  refine pu_ HT_ 2 14 #[ty, ty, ty, fy, fy, fy, fy, fy] ?_
  refine pu_ HT_ 3 15 #[ty, ty, ty, ty, fy, fy, fy, fy] ?_
  refine pu_ HT_ 5 17 #[ty, ty, ty, ty, fy, ty, fy, fy] ?_
  refine tk_ HT_ HW_ 4 16 #[ty, ty, ty, ty, ty, ty, fy, fy] hHeld ?_ (hr := by rintro w' ⟨s0, s1, s2⟩; go_simp; with_reducible rfl)
  refine one_ (i := 6) (N := some 18) #[ty, ty, ty, ty, ty, ty, ty, fy] rfl rfl (one_of HT_.out (by kernel_rfl)) (by decide) (fun K hK => ?_)
  refine goes_ Tryz.func70 (by kernel_rfl) rfl #[.int .i64 x1_1] (by rfl) rfl rfl (by (try simp only [sD_, sE_, sF_]); rfl) ?_
  with_reducible refine (wF37.calls k1 x1_1 t747 _ A5.out).mono ?_
  rintro e w12 ⟨rfl, hb⟩
  refine ⟨_, rfl, ?_⟩
  replace HB := b4_ HB hb
  (try clear hb)
  refine hK.out _ _ ⟨(cb_ HB hw746_0), (cb_ HB hw746_1), (cb_ HB hw746_2)⟩ (fun hHeld => ?_)
  clear hK K
  refine norm_ (by show Act.put _ (some 18) _ = _; simp only [Act.put, sA_, sB_, sC_, i6_, i3_]; rfl) ?_
  refine pu_ HT_ 7 19 #[ty, ty, ty, ty, ty, ty, ty, ty] ?_
  refine done_ (done_of HT_.out (by kernel_rfl)) ?_
  have p748 : 0 ≤ (x5_1 : Int) := oD_ ‹_›
  have q748 : x5_1 < (l0.length : Int) := oD_ ‹_›
  obtain ⟨ad748, e748, hx748_0, hx748_1, hx748_2⟩ := at_T60 HR0.out x5_1 p748 q748
  obtain rfl : ad746 = ad748 := (by injection e748)
  replace hx748_0 := cb_ HB hx748_0
  replace hx748_1 := cb_ HB hx748_1
  replace hx748_2 := cb_ HB hx748_2
  replace p748 := eq_true p748
  replace q748 := eq_true q748
  have p749 : 0 ≤ (x5_1 : Int) := oD_ ‹_›
  have q749 : x5_1 < (l0.length : Int) := oD_ ‹_›
  obtain ⟨ad749, e749, hx749_0, hx749_1, hx749_2⟩ := at_T60 HR0.out x5_1 p749 q749
  obtain rfl : ad746 = ad749 := (by injection e749)
  replace hx749_0 := cb_ HB hx749_0
  replace hx749_1 := cb_ HB hx749_1
  replace hx749_2 := cb_ HB hx749_2
  replace p749 := eq_true p749
  replace q749 := eq_true q749
  try go_wp2
  go_roundg k1
  case measure => have := HK1.out; omega
  case rel => exact ⟨(wrap64 ((wrap64 ((wrap64 (x1_1 + 1)) + 1)) + 1)), (wrap64 (x5_1 + 1)), (by rfl), (by rfl), H', ⟨by have := HK1.out; omega⟩, ⟨HB.out⟩⟩
def wF34.f (k : Nat) (l0_0 : List (S60)) (a1 : Int) : Option (Int) := (wF33.f k l0_0 a1).bind fun t751 => (if t751 < 0 then (some (-1)) else (some t751))
theorem wF34.mono : ∀ a0 a1 k, LeO (wF34.f k a0 a1) (wF34.f (k + 1) a0 a1) := by
 intro a0 a1 k
 unfold wF34.f
 repeat' with_reducible first | exact wF33.mono _ _ _ | exact l3_ _ | exact l0_ _ | refine l2_ ?_ ?_ | refine l1_ ?_ (fun _ => ?_)
theorem wF34.calls (k : Nat) (A0_0 : Option Addr) (c0_0 : Nat) (l0_0 : List (S60)) (a1 : Int) (r : Int) (w : World) (hr0_0 : Kd.C k60 w A0_0 l0_0.length l0_0) (hc0_0 : l0_0.length ≤ c0_0) (h : wF34.f k l0_0 a1 = some r) :
  Calls Tryz.prog 23 #[.agg #[.slice A0_0 l0_0.length c0_0], .int .i64 a1] w fun e w' => e = .returned (.int .i64 r) ∧ Below w.heap.size w w' := by
 have hu30 := Tryz.underlying30
 have HR0_0 := aM_ hr0_0
 have HC0_0 := aM_ hc0_0
 clear hr0_0 hc0_0
 have HB := aM_ (Below.refl w.heap.size w)
 have H : ((wF33.f k l0_0 a1).bind fun t751 => (if t751 < 0 then (some (-1)) else (some t751))) = some r := h
 clear h
 replace H := oB_.mp H
 obtain ⟨t751, A30, H⟩ := H
 try dsimp only at H
 have A3 := aM_ A30
 clear A30
 by_cases c4 : t751 < 0
 ·
  rw [if_pos c4] at H
  have c4b0 := dT_ c4
  clear c4
  obtain rfl := Option.some.inj H
  go_enter Tryz.func23, Tryz.ntmps23
  go_wp2_with (first | (refine bx_ 2 #[.slice A0_0 l0_0.length c0_0] 30 ?_; intro gb750 hg w5 hbox hb; have BK750 := aM_ (hbox); have GW750 := gw_ hg HB; replace HB := b4_ HB hb; clear hb hbox hg; have hcz6_0 := c0_ BK750; have hfz6_0 := bF_ BK750.out 0) | (refine gs_ 8 Tryz.func50 #[.slice A0_0 l0_0.length c0_0, .int .i64 a1] ?_; (with_reducible refine (wF33.calls k _ _ l0_0 a1 t751 _ ?side1 HC0_0.out A3.out).mono ?_); (case side1 => repeat (first | exact (k4_ HR0_0.out HB.out) | with_reducible first | apply cA_ | apply cN_ | apply cD_)); rintro e w7 ⟨rfl, hb⟩; refine ⟨_, rfl, ?_⟩; replace BK750 := b5_ BK750 hb; replace HB := b4_ HB hb; (try clear hb)))
  go_ret
  exact ⟨by rfl, by exact HB.out⟩
 rw [if_neg c4] at H
 have c4b0 := dF_ c4
 clear c4
 obtain rfl := Option.some.inj H
 go_enter Tryz.func23, Tryz.ntmps23
 go_wp2_with (first | (refine bx_ 2 #[.slice A0_0 l0_0.length c0_0] 30 ?_; intro gb750 hg w8 hbox hb; have BK750 := aM_ (hbox); have GW750 := gw_ hg HB; replace HB := b4_ HB hb; clear hb hbox hg; have hcz9_0 := c0_ BK750; have hfz9_0 := bF_ BK750.out 0) | (refine gs_ 8 Tryz.func50 #[.slice A0_0 l0_0.length c0_0, .int .i64 a1] ?_; (with_reducible refine (wF33.calls k _ _ l0_0 a1 t751 _ ?side1 HC0_0.out A3.out).mono ?_); (case side1 => repeat (first | exact (k4_ HR0_0.out HB.out) | with_reducible first | apply cA_ | apply cN_ | apply cD_)); rintro e w10 ⟨rfl, hb⟩; refine ⟨_, rfl, ?_⟩; replace BK750 := b5_ BK750 hb; replace HB := b4_ HB hb; (try clear hb)))
 go_ret
 exact ⟨by rfl, by exact HB.out⟩
mutual
def sF65.l0 : Nat → ByteArray → Int → Option (Bool)
 | 0, _, _ => none
 | k + 1, x0, x3 => if x3 < (x0.size : Int) then (sF65.j1 k x0 x3 (decide (x3 ≤ 12))) else (sF65.j1 k x0 x3 false)
def sF65.j1 : Nat → ByteArray → Int → Bool → Option (Bool)
 | 0, _, _, _ => none
 | k + 1, x0, x3, x11 => if x11 = true then (if 0 ≤ x3 then (if x3 < (x0.size : Int) then (if (bt x0 x3) < 97 then (some false) else (if (bt x0 x3) > 122 then (some false) else (sF65.l0 k x0 (wrap64 (x3 + 1))))) else (none)) else (none)) else (some (decide ((x0.size : Int) ≤ 12)))
end
def sF65.f (k : Nat) (a0 : ByteArray) : Option (Bool) := sF65.l0 k a0 0
theorem sF65.mono_l : ∀ k, (∀ y0 y1, LeO (sF65.l0 k y0 y1) (sF65.l0 (k + 1) y0 y1)) ∧ (∀ y0 y1 y2, LeO (sF65.j1 k y0 y1 y2) (sF65.j1 (k + 1) y0 y1 y2))
 | 0 => ⟨fun _ _ r h => by simp [sF65.l0] at h, fun _ _ _ r h => by simp [sF65.j1] at h⟩
 | k + 1 => by
  obtain ⟨ih0, ih1⟩ := sF65.mono_l k
  refine ⟨?_, ?_⟩
  ·
   intro y0 y1
   unfold sF65.l0
   repeat' with_reducible first | exact ih0 _ _ | exact ih1 _ _ _ | exact l3_ _ | exact l0_ _ | refine l2_ ?_ ?_ | refine l1_ ?_ (fun _ => ?_)
  intro y0 y1 y2
  unfold sF65.j1
  repeat' with_reducible first | exact ih0 _ _ | exact ih1 _ _ _ | exact l3_ _ | exact l0_ _ | refine l2_ ?_ ?_ | refine l1_ ?_ (fun _ => ?_)
theorem sF65.mono : ∀ a0 k, LeO (sF65.f k a0) (sF65.f (k + 1) a0) := by
 intro a0 k
 obtain ⟨ih0, ih1⟩ := sF65.mono_l k
 unfold sF65.f
 repeat' with_reducible first | exact ih0 _ _ | exact ih1 _ _ _ | exact l3_ _ | exact l0_ _ | refine l2_ ?_ ?_ | refine l1_ ?_ (fun _ => ?_)
theorem sF65.calls (k : Nat) (a0 : ByteArray) (r : Bool) (w : World) (h : sF65.f k a0 = some r) :
  Calls Tryz.prog 59 #[.string a0] w fun e w' => e = .returned (.bool r) ∧ Drawn0 w w' := by
 have H : (sF65.l0 k a0 0) = some r := h
 clear h
 have H' := aM_ H
 clear H
 go_enter Tryz.func59, Tryz.ntmps59
 go_wp2
 go_loopg [3] k (fun kq v3 w' => ∃ (x3_1 : Int), v3 = .int .i64 x3_1 ∧ Aside0 (sF65.l0 kq a0 x3_1 = some r) ∧ Aside0 (kq ≤ k) ∧ Drawn0 w w')
 case atStart => exact ⟨(0), (by rfl), H', ⟨Nat.le_refl _⟩, by repeat (first | exact Drawn0.refl _ | apply Drawn0.step)⟩
 clear H'
 obtain ⟨x3_1, rfl, HA, HK1, ⟨m1, rfl⟩⟩ := hrel
 cases gk with
 | zero => exact absurd HA.out (by simp [sF65.l0])
 | succ k1 =>
  have H := HA.out
  clear HA
  simp only [sF65.l0] at H
  have HC2 := aM_ H
  clear H
  go_upto_region 2 with (fail)
  go_cut [11] (fun v11 wc => ∃ (kq : Nat) (x11_1 : Bool), v11 = .bool x11_1 ∧ Aside0 (sF65.j1 kq a0 x3_1 x11_1 = some r) ∧ Aside0 (kq ≤ k1) ∧ Drawn0 w wc)
  case first =>
   have H := HC2.out
   clear HC2
   by_cases c3 : x3_1 < (a0.size : Int)
   ·
    rw [if_pos c3] at H
    have c3b0 := dT_ c3
    clear c3
    (skip)
    have H' := aM_ H
    clear H
    go_wp2
    go_meet
    case rel => exact ⟨_, (decide (x3_1 ≤ 12)), (by rfl), H', ⟨by have := HK1.out; omega⟩, by repeat (first | exact Drawn0.refl _ | apply Drawn0.step)⟩
   rw [if_neg c3] at H
   have c3b0 := dF_ c3
   clear c3
   (skip)
   have H' := aM_ H
   clear H
   go_wp2
   go_meet
   case rel => exact ⟨_, (false), (by rfl), H', ⟨by have := HK1.out; omega⟩, by repeat (first | exact Drawn0.refl _ | apply Drawn0.step)⟩
  clear HC2
  try clear p2
  try clear c3b0
  obtain ⟨kq, x11_1, rfl, HA, HJ1, ⟨mc1, rfl⟩⟩ := hcut
  cases kq with
  | zero => exact absurd HA.out (by simp [sF65.j1])
  | succ kj1 =>
   have H := HA.out
   clear HA
   simp only [sF65.j1] at H
   by_cases c4 : x11_1 = true
   rotate_left
   ·
    replace c4 := Bool.eq_false_iff.mpr c4
    subst c4
    replace H : (some (decide ((a0.size : Int) ≤ 12))) = some r := by rw [if_neg (show ¬ (false = true) by decide)] at H; exact H
    obtain rfl := Option.some.inj H
    go_wp2
    go_ret
    exact ⟨by rfl, by repeat (first | exact Drawn0.refl _ | apply Drawn0.step)⟩
   subst c4
   rw [if_pos rfl] at H
   by_cases c5 : 0 ≤ x3_1
   rotate_left
   ·
    rw [if_neg c5] at H
    exact absurd H (by simp)
   rw [if_pos c5] at H
   have c5b0 := dT_ c5
   clear c5
   by_cases c6 : x3_1 < (a0.size : Int)
   rotate_left
   ·
    rw [if_neg c6] at H
    exact absurd H (by simp)
   rw [if_pos c6] at H
   have c6b0 := dT_ c6
   clear c6
   by_cases c8 : (bt a0 x3_1) < 97
   ·
    rw [if_pos c8] at H
    have c8b0 := dT_ c8
    clear c8
    obtain rfl := Option.some.inj H
    have p7 : 0 ≤ (x3_1 : Int) := oD_ ‹_›
    have q7 : x3_1 < (a0.size : Int) := oD_ ‹_›
    have hx7 := bt_at a0 x3_1
    replace p7 := eq_true p7
    replace q7 := eq_true q7
    go_wp2
    go_ret
    exact ⟨by rfl, by repeat (first | exact Drawn0.refl _ | apply Drawn0.step)⟩
   rw [if_neg c8] at H
   have c8b0 := dF_ c8
   clear c8
   by_cases c10 : (bt a0 x3_1) > 122
   ·
    rw [if_pos c10] at H
    have c10b0 := dT_ c10
    clear c10
    obtain rfl := Option.some.inj H
    have p7 : 0 ≤ (x3_1 : Int) := oD_ ‹_›
    have q7 : x3_1 < (a0.size : Int) := oD_ ‹_›
    have hx7 := bt_at a0 x3_1
    replace p7 := eq_true p7
    replace q7 := eq_true q7
    have p9 : 0 ≤ (x3_1 : Int) := oD_ ‹_›
    have q9 : x3_1 < (a0.size : Int) := oD_ ‹_›
    have hx9 := bt_at a0 x3_1
    replace p9 := eq_true p9
    replace q9 := eq_true q9
    go_wp2
    go_ret
    exact ⟨by rfl, by repeat (first | exact Drawn0.refl _ | apply Drawn0.step)⟩
   rw [if_neg c10] at H
   have c10b0 := dF_ c10
   clear c10
   have H' := aM_ H
   clear H
   have p7 : 0 ≤ (x3_1 : Int) := oD_ ‹_›
   have q7 : x3_1 < (a0.size : Int) := oD_ ‹_›
   have hx7 := bt_at a0 x3_1
   replace p7 := eq_true p7
   replace q7 := eq_true q7
   have p9 : 0 ≤ (x3_1 : Int) := oD_ ‹_›
   have q9 : x3_1 < (a0.size : Int) := oD_ ‹_›
   have hx9 := bt_at a0 x3_1
   replace p9 := eq_true p9
   replace q9 := eq_true q9
   go_wp2
   go_roundg kj1
   case measure => have := HK1.out; have := HJ1.out; omega
   case rel => exact ⟨(wrap64 (x3_1 + 1)), (by rfl), H', ⟨by have := HK1.out; have := HJ1.out; omega⟩, by repeat (first | exact Drawn0.refl _ | apply Drawn0.step)⟩
mutual
def sF68.l0 : Nat → Int → ByteArray → List (S60) → Option (ByteArray)
 | 0, _, _, _ => none
 | k + 1, x1, x5, x107000 => if x1 > 0 then (sF68.j1 k x1 x5 (decide ((x5.size : Int) ≤ 12)) x107000) else (sF68.j1 k x1 x5 false x107000)
def sF68.j1 : Nat → Int → ByteArray → Bool → List (S60) → Option (ByteArray)
 | 0, _, _, _, _ => none
 | k + 1, x1, x5, x13, x107000 => if x13 = true then (if 0 ≤ x1 then (if x1 < (x107000.length : Int) then (if ((rd_T60 x107000 x1).f1) ≥ x1 then (some (⟨#[63]⟩ : ByteArray)) else (if ((rd_T60 x107000 x1).f0).toList = ([] : List UInt8) then (some (⟨#[63]⟩ : ByteArray)) else ((sF65.f k ((rd_T60 x107000 x1).f0)).bind fun t109 => (if t109 = true then (if ((rd_T60 x107000 x1).f0).size + x5.size ≤ 9223372036854775807 then (sF68.l0 k ((rd_T60 x107000 x1).f1) (((rd_T60 x107000 x1).f0) ++ x5) x107000) else (none)) else (some (⟨#[63]⟩ : ByteArray)))))) else (none)) else (none)) else (if x1 = 0 then (some x5) else (some (⟨#[63]⟩ : ByteArray)))
end
def sF68.f (k : Nat) (l0_0 : List (S60)) (a1 : Int) : Option (ByteArray) := sF68.l0 k a1 (⟨#[]⟩ : ByteArray) l0_0
theorem sF68.mono_l : ∀ k, (∀ y0 y1 y2, LeO (sF68.l0 k y0 y1 y2) (sF68.l0 (k + 1) y0 y1 y2)) ∧ (∀ y0 y1 y2 y3, LeO (sF68.j1 k y0 y1 y2 y3) (sF68.j1 (k + 1) y0 y1 y2 y3))
 | 0 => ⟨fun _ _ _ r h => by simp [sF68.l0] at h, fun _ _ _ _ r h => by simp [sF68.j1] at h⟩
 | k + 1 => by
  obtain ⟨ih0, ih1⟩ := sF68.mono_l k
  refine ⟨?_, ?_⟩
  ·
   intro y0 y1 y2
   unfold sF68.l0
   repeat' with_reducible first | exact ih0 _ _ _ | exact ih1 _ _ _ _ | exact sF65.mono _ _ | exact l3_ _ | exact l0_ _ | refine l2_ ?_ ?_ | refine l1_ ?_ (fun _ => ?_)
  intro y0 y1 y2 y3
  unfold sF68.j1
  repeat' with_reducible first | exact ih0 _ _ _ | exact ih1 _ _ _ _ | exact sF65.mono _ _ | exact l3_ _ | exact l0_ _ | refine l2_ ?_ ?_ | refine l1_ ?_ (fun _ => ?_)
theorem sF68.mono : ∀ a0 a1 k, LeO (sF68.f k a0 a1) (sF68.f (k + 1) a0 a1) := by
 intro a0 a1 k
 obtain ⟨ih0, ih1⟩ := sF68.mono_l k
 unfold sF68.f
 repeat' with_reducible first | exact ih0 _ _ _ | exact ih1 _ _ _ _ | exact sF65.mono _ _ | exact l3_ _ | exact l0_ _ | refine l2_ ?_ ?_ | refine l1_ ?_ (fun _ => ?_)
theorem sF68.calls (k : Nat) (A0_0 : Option Addr) (c0_0 : Nat) (l0_0 : List (S60)) (a1 : Int) (r : ByteArray) (w : World) (hr0_0 : Kd.C k60 w A0_0 l0_0.length l0_0) (hc0_0 : l0_0.length ≤ c0_0) (h : sF68.f k l0_0 a1 = some r) :
  Calls Tryz.prog 31 #[.agg #[.slice A0_0 l0_0.length c0_0], .int .i64 a1] w fun e w' => e = .returned (.string r) ∧ Below w.heap.size w w' := by
 have hu30 := Tryz.underlying30
 have hu60 := Tryz.underlying60
 have HR0_0 := aM_ hr0_0
 have HC0_0 := aM_ hc0_0
 clear hr0_0 hc0_0
 have HB := aM_ (Below.refl w.heap.size w)
 have H : (sF68.l0 k a1 (⟨#[]⟩ : ByteArray) l0_0) = some r := h
 clear h
 have H' := aM_ H
 clear H
 go_enter Tryz.func31, Tryz.ntmps31
 go_wp2_with (first | ((with_reducible refine gD_ (N := 2) rfl ?_); (try (refine gate_guard (by rfl) ?_; dsimp only)); refine bE_ ?hg (N := 2) ?hd (cs := #[.slice A0_0 l0_0.length c0_0]) (t := 30) ?hr ?_; (case hd => rfl); (case hg => rfl); (case hr => (go_simp; done)); intro gb106 hg w3 hbox hb; have BK106 := aM_ (hbox); have GW106 := gw_ hg HB; replace HB := b4_ HB hb; clear hb hbox hg))
 go_loopg [1, 5] k (fun kq v1 v5 w' => ∃ (x1_1 : Int) (x5_1 : ByteArray), v1 = .int .i64 x1_1 ∧ v5 = .string x5_1 ∧ Aside0 (sF68.l0 kq x1_1 x5_1 l0_0 = some r) ∧ Aside0 (kq ≤ k) ∧ Aside0 (w'.heap[gb106]? = some (.cells #[(.slice A0_0 l0_0.length c0_0)] 30 (0, 0))) ∧ Aside0 (Below w.heap.size w w'))
 case atStart => exact ⟨(a1), ((⟨#[]⟩ : ByteArray)), (by rfl), (by rfl), H', ⟨Nat.le_refl _⟩, ⟨BK106.out⟩, ⟨HB.out⟩⟩
 clear H'
 try clear p2
 obtain ⟨x1_1, x5_1, rfl, rfl, HA, HK1, BK106, HB⟩ := hrel
 cases gk with
 | zero => exact absurd HA.out (by simp [sF68.l0])
 | succ k1 =>
  have H := HA.out
  clear HA
  simp only [sF68.l0] at H
  have HC4 := aM_ H
  clear H
  go_upto_region 2 with (fail)
  go_cut [13] (fun v13 wc => ∃ (kq : Nat) (x13_3 : Bool), v13 = .bool x13_3 ∧ Aside0 (sF68.j1 kq x1_1 x5_1 x13_3 l0_0 = some r) ∧ Aside0 (kq ≤ k1) ∧ Aside0 (wc.heap[gb106]? = some (.cells #[(.slice A0_0 l0_0.length c0_0)] 30 (0, 0))) ∧ Aside0 (Below w.heap.size w wc))
  case first =>
   have H := HC4.out
   clear HC4
   by_cases c5 : x1_1 > 0
   ·
    rw [if_pos c5] at H
    have c5b0 := dT_ c5
    clear c5
    (skip)
    have H' := aM_ H
    clear H
    go_wp2
    go_meet
    case rel => exact ⟨_, (decide ((x5_1.size : Int) ≤ 12)), (by rfl), H', ⟨by have := HK1.out; omega⟩, ⟨BK106.out⟩, ⟨HB.out⟩⟩
   rw [if_neg c5] at H
   have c5b0 := dF_ c5
   clear c5
   (skip)
   have H' := aM_ H
   clear H
   go_wp2
   go_meet
   case rel => exact ⟨_, (false), (by rfl), H', ⟨by have := HK1.out; omega⟩, ⟨BK106.out⟩, ⟨HB.out⟩⟩
  clear HC4
  try clear p2
  try clear c5b0
  try clear p2
  obtain ⟨kq, x13_3, rfl, HA, HJ3, BK106, HB⟩ := hcut
  cases kq with
  | zero => exact absurd HA.out (by simp [sF68.j1])
  | succ kj3 =>
   have H := HA.out
   clear HA
   simp only [sF68.j1] at H
   by_cases c6 : x13_3 = true
   rotate_left
   ·
    replace c6 := Bool.eq_false_iff.mpr c6
    subst c6
    replace H : (if x1_1 = 0 then (some x5_1) else (some (⟨#[63]⟩ : ByteArray))) = some r := by rw [if_neg (show ¬ (false = true) by decide)] at H; exact H
    by_cases c30 : x1_1 = 0
    ·
     rw [if_pos c30] at H
     have c30b0 : (x1_1 == 0) = true := beq_iff_eq.mpr c30
     have c30b1 : (x1_1 != 0) = false := bne_eq_false_iff_eq.mpr c30
     clear c30
     obtain rfl := Option.some.inj H
     go_wp2
     go_ret
     exact ⟨by rfl, by exact HB.out⟩
    rw [if_neg c30] at H
    have c30b0 : (x1_1 == 0) = false := beq_eq_false_iff_ne.mpr c30
    have c30b1 : (x1_1 != 0) = true := bne_iff_ne.mpr c30
    obtain rfl := Option.some.inj H
    go_wp2
    go_ret
    exact ⟨by rfl, by exact HB.out⟩
   subst c6
   rw [if_pos rfl] at H
   by_cases c7 : 0 ≤ x1_1
   rotate_left
   ·
    rw [if_neg c7] at H
    exact absurd H (by simp)
   rw [if_pos c7] at H
   have c7b0 := dT_ c7
   clear c7
   by_cases c8 : x1_1 < (l0_0.length : Int)
   rotate_left
   ·
    rw [if_neg c8] at H
    exact absurd H (by simp)
   rw [if_pos c8] at H
   have c8b0 := dT_ c8
   clear c8
   by_cases c9 : ((rd_T60 l0_0 x1_1).f1) ≥ x1_1
   ·
    rw [if_pos c9] at H
    have c9b0 := dT_ c9
    clear c9
    obtain rfl := Option.some.inj H
    have hcz10_0 := c0_ BK106
    have hfz10_0 := bF_ BK106.out 0
    have p107 : 0 ≤ (x1_1 : Int) := oD_ ‹_›
    have q107 : x1_1 < (l0_0.length : Int) := oD_ ‹_›
    obtain ⟨ad107, e107, hx107_0, hx107_1, hx107_2⟩ := at_T60 HR0_0.out x1_1 p107 q107
    cases e107
    replace hx107_0 := cb_ HB hx107_0
    replace hx107_1 := cb_ HB hx107_1
    replace hx107_2 := cb_ HB hx107_2
    replace p107 := eq_true p107
    replace q107 := eq_true q107
    go_wp2_with (first | ((with_reducible refine gD_ (N := 6) rfl ?_); (try (refine gate_guard (by rfl) ?_; dsimp only)); refine bE_ ?hg (N := 6) ?hd (cs := #[.string (⟨#[]⟩ : ByteArray), .int .i64 0, .bool false]) (t := 60) ?hr ?_; (case hd => rfl); (case hg => rfl); (case hr => (go_simp; done)); intro gb108 hg w11 hbox hb; have BK108 := aM_ (hbox); have GW108 := gw_ hg HB; replace HB := b4_ HB hb; have NB106_108 := nb_ hg BK106; have NB108_106 := ns_ NB106_108; replace BK106 := b5_ BK106 hb; clear hb hbox hg; have hnb12 := NB108_106.out; have hnc12 := NB106_108.out; have hcz13_0 := c0_ BK108; have hcz13_1 := c1_ BK108; have hcz13_2 := c2_ BK108; have hfz13_0 := bF_ BK108.out 0; have hfz13_1 := bF_ BK108.out 1; have hfz13_2 := bF_ BK108.out 2))
    go_ret
    exact ⟨by rfl, by repeat with_reducible first | exact HB.out | apply bA_ | apply bN_ | apply bD_ | refine bS_ ?_ (Aside0.out ‹_›)⟩
   rw [if_neg c9] at H
   have c9b0 := dF_ c9
   clear c9
   by_cases c14 : ((rd_T60 l0_0 x1_1).f0).toList = ([] : List UInt8)
   ·
    rw [if_pos c14] at H
    have c14b0 : (((rd_T60 l0_0 x1_1).f0).toList == ([] : List UInt8)) = true := beq_iff_eq.mpr c14
    have c14b1 : (((rd_T60 l0_0 x1_1).f0).toList != ([] : List UInt8)) = false := bne_eq_false_iff_eq.mpr c14
    clear c14
    obtain rfl := Option.some.inj H
    have hcz15_0 := c0_ BK106
    have hfz15_0 := bF_ BK106.out 0
    have p107 : 0 ≤ (x1_1 : Int) := oD_ ‹_›
    have q107 : x1_1 < (l0_0.length : Int) := oD_ ‹_›
    obtain ⟨ad107, e107, hx107_0, hx107_1, hx107_2⟩ := at_T60 HR0_0.out x1_1 p107 q107
    cases e107
    replace hx107_0 := cb_ HB hx107_0
    replace hx107_1 := cb_ HB hx107_1
    replace hx107_2 := cb_ HB hx107_2
    replace p107 := eq_true p107
    replace q107 := eq_true q107
    go_wp2_with (first | ((with_reducible refine gD_ (N := 6) rfl ?_); (try (refine gate_guard (by rfl) ?_; dsimp only)); refine bE_ ?hg (N := 6) ?hd (cs := #[.string (⟨#[]⟩ : ByteArray), .int .i64 0, .bool false]) (t := 60) ?hr ?_; (case hd => rfl); (case hg => rfl); (case hr => (go_simp; done)); intro gb108 hg w16 hbox hb; have BK108 := aM_ (hbox); have GW108 := gw_ hg HB; replace HB := b4_ HB hb; have NB106_108 := nb_ hg BK106; have NB108_106 := ns_ NB106_108; replace BK106 := b5_ BK106 hb; clear hb hbox hg; have hnb17 := NB108_106.out; have hnc17 := NB106_108.out; have hcz18_0 := c0_ BK108; have hcz18_1 := c1_ BK108; have hcz18_2 := c2_ BK108; have hfz18_0 := bF_ BK108.out 0; have hfz18_1 := bF_ BK108.out 1; have hfz18_2 := bF_ BK108.out 2))
    go_ret
    exact ⟨by rfl, by repeat with_reducible first | exact HB.out | apply bA_ | apply bN_ | apply bD_ | refine bS_ ?_ (Aside0.out ‹_›)⟩
   rw [if_neg c14] at H
   have c14b0 : (((rd_T60 l0_0 x1_1).f0).toList == ([] : List UInt8)) = false := beq_eq_false_iff_ne.mpr c14
   have c14b1 : (((rd_T60 l0_0 x1_1).f0).toList != ([] : List UInt8)) = true := bne_iff_ne.mpr c14
   replace H := oB_.mp H
   obtain ⟨t109, A190, H⟩ := H
   try dsimp only at H
   have A19 := aM_ A190
   clear A190
   by_cases c20 : t109 = true
   ·
    subst c20
    rw [if_pos rfl] at H
    by_cases c21 : ((rd_T60 l0_0 x1_1).f0).size + x5_1.size ≤ 9223372036854775807
    rotate_left
    ·
     rw [if_neg c21] at H
     exact absurd H (by simp)
    rw [if_pos c21] at H
    have c21b0 := eq_true c21
    have c21b1 := dT_ c21
    try have c21b2 : (9223372036854775807 < ((rd_T60 l0_0 x1_1).f0).size + x5_1.size) = False := eq_false (Nat.not_lt.2 c21)
    have H' := aM_ H
    clear H
    have hcz22_0 := c0_ BK106
    have hfz22_0 := bF_ BK106.out 0
    have p107 : 0 ≤ (x1_1 : Int) := oD_ ‹_›
    have q107 : x1_1 < (l0_0.length : Int) := oD_ ‹_›
    obtain ⟨ad107, e107, hx107_0, hx107_1, hx107_2⟩ := at_T60 HR0_0.out x1_1 p107 q107
    cases e107
    replace hx107_0 := cb_ HB hx107_0
    replace hx107_1 := cb_ HB hx107_1
    replace hx107_2 := cb_ HB hx107_2
    replace p107 := eq_true p107
    replace q107 := eq_true q107
    go_wp2_with (first | ((with_reducible refine gD_ (N := 6) rfl ?_); (try (refine gate_guard (by rfl) ?_; dsimp only)); refine bE_ ?hg (N := 6) ?hd (cs := #[.string (⟨#[]⟩ : ByteArray), .int .i64 0, .bool false]) (t := 60) ?hr ?_; (case hd => rfl); (case hg => rfl); (case hr => (go_simp; done)); intro gb108 hg w23 hbox hb; have BK108 := aM_ (hbox); have GW108 := gw_ hg HB; replace HB := b4_ HB hb; have NB106_108 := nb_ hg BK106; have NB108_106 := ns_ NB106_108; replace BK106 := b5_ BK106 hb; clear hb hbox hg; have hnb24 := NB108_106.out; have hnc24 := NB106_108.out; have hcz25_0 := c0_ BK108; have hcz25_1 := c1_ BK108; have hcz25_2 := c2_ BK108; have hfz25_0 := bF_ BK108.out 0; have hfz25_1 := bF_ BK108.out 1; have hfz25_2 := bF_ BK108.out 2) | (go_at_call 59; (with_reducible refine (sF65.calls kj3 ((rd_T60 l0_0 x1_1).f0) true _ A19.out).mono ?_); rintro e w' ⟨rfl, ⟨nd, rfl⟩⟩))
    go_roundg kj3
    case measure => have := HK1.out; have := HJ3.out; omega
    case rel => exact ⟨((rd_T60 l0_0 x1_1).f1), (((rd_T60 l0_0 x1_1).f0) ++ x5_1), (by rfl), (by rfl), H', ⟨by have := HK1.out; have := HJ3.out; omega⟩, ⟨by (with_reducible repeat (first | refine b2_ ?_ _ | refine b1_ ?_ | refine b3_ ?_ _)); exact br_ NB106_108.out (br_ NB106_108.out (br_ NB106_108.out (BK106.out)))⟩, ⟨by repeat with_reducible first | exact HB.out | apply bA_ | apply bN_ | apply bD_ | refine bS_ ?_ (Aside0.out ‹_›)⟩⟩
   replace c20 := Bool.eq_false_iff.mpr c20
   subst c20
   replace H : (some (⟨#[63]⟩ : ByteArray)) = some r := by rw [if_neg (show ¬ (false = true) by decide)] at H; exact H
   obtain rfl := Option.some.inj H
   have hcz26_0 := c0_ BK106
   have hfz26_0 := bF_ BK106.out 0
   have p107 : 0 ≤ (x1_1 : Int) := oD_ ‹_›
   have q107 : x1_1 < (l0_0.length : Int) := oD_ ‹_›
   obtain ⟨ad107, e107, hx107_0, hx107_1, hx107_2⟩ := at_T60 HR0_0.out x1_1 p107 q107
   cases e107
   replace hx107_0 := cb_ HB hx107_0
   replace hx107_1 := cb_ HB hx107_1
   replace hx107_2 := cb_ HB hx107_2
   replace p107 := eq_true p107
   replace q107 := eq_true q107
   go_wp2_with (first | ((with_reducible refine gD_ (N := 6) rfl ?_); (try (refine gate_guard (by rfl) ?_; dsimp only)); refine bE_ ?hg (N := 6) ?hd (cs := #[.string (⟨#[]⟩ : ByteArray), .int .i64 0, .bool false]) (t := 60) ?hr ?_; (case hd => rfl); (case hg => rfl); (case hr => (go_simp; done)); intro gb108 hg w27 hbox hb; have BK108 := aM_ (hbox); have GW108 := gw_ hg HB; replace HB := b4_ HB hb; have NB106_108 := nb_ hg BK106; have NB108_106 := ns_ NB106_108; replace BK106 := b5_ BK106 hb; clear hb hbox hg; have hnb28 := NB108_106.out; have hnc28 := NB106_108.out; have hcz29_0 := c0_ BK108; have hcz29_1 := c1_ BK108; have hcz29_2 := c2_ BK108; have hfz29_0 := bF_ BK108.out 0; have hfz29_1 := bF_ BK108.out 1; have hfz29_2 := bF_ BK108.out 2) | (go_at_call 59; (with_reducible refine (sF65.calls kj3 ((rd_T60 l0_0 x1_1).f0) false _ A19.out).mono ?_); rintro e w' ⟨rfl, ⟨nd, rfl⟩⟩))
   go_ret
   exact ⟨by rfl, by repeat with_reducible first | exact HB.out | apply bA_ | apply bN_ | apply bD_ | refine bS_ ?_ (Aside0.out ‹_›)⟩
def sF51.f (a0 : Int) (a1 : Int) (a2 : Int) : Option (Bool) := if a0 ≥ a1 then (some (decide (a0 ≤ a2))) else (some false)
theorem sF51.calls (a0 : Int) (a1 : Int) (a2 : Int) (r : Bool) (w : World) (h : sF51.f a0 a1 a2 = some r) :
  Calls Tryz.prog 54 #[.int .i64 a0, .int .i64 a1, .int .i64 a2] w fun e w' => e = .returned (.bool r) ∧ Drawn0 w w' := by
 have H : (if a0 ≥ a1 then (some (decide (a0 ≤ a2))) else (some false)) = some r := h
 clear h
 by_cases c4 : a0 ≥ a1
 ·
  rw [if_pos c4] at H
  have c4b0 := dT_ c4
  clear c4
  obtain rfl := Option.some.inj H
  go_enter Tryz.func54, Tryz.ntmps54
  go_wp2
  go_ret
  exact ⟨by rfl, by repeat (first | exact Drawn0.refl _ | apply Drawn0.step)⟩
 rw [if_neg c4] at H
 have c4b0 := dF_ c4
 clear c4
 obtain rfl := Option.some.inj H
 go_enter Tryz.func54, Tryz.ntmps54
 go_wp2
 go_ret
 exact ⟨by rfl, by repeat (first | exact Drawn0.refl _ | apply Drawn0.step)⟩
mutual
def sF58.l0 : Nat → Int → ByteArray → List (S76) → Option (ByteArray)
 | 0, _, _, _ => none
 | k + 1, x1, x5, x111000 => if x1 > 0 then (sF58.j1 k x1 x5 (decide ((x5.size : Int) ≤ 12)) x111000) else (sF58.j1 k x1 x5 false x111000)
def sF58.j1 : Nat → Int → ByteArray → Bool → List (S76) → Option (ByteArray)
 | 0, _, _, _, _ => none
 | k + 1, x1, x5, x13, x111000 => if x13 = true then (if 0 ≤ x1 then (if x1 < (x111000.length : Int) then ((sF51.f ((rd_T76 x111000 x1).f0) 0 25).bind fun t113 => (if t113 = true then (if ((rd_T76 x111000 x1).f1) ≥ x1 then (some (⟨#[63]⟩ : ByteArray)) else ((some (([(wrap64 (97 + ((rd_T76 x111000 x1).f0))) % 256] : List Int) : List Int)).bind fun y114 => (if (strOfNums y114).size + x5.size ≤ 9223372036854775807 then (sF58.l0 k ((rd_T76 x111000 x1).f1) ((strOfNums y114) ++ x5) x111000) else (none)))) else (some (⟨#[63]⟩ : ByteArray)))) else (none)) else (none)) else (if x1 = 0 then (some x5) else (some (⟨#[63]⟩ : ByteArray)))
end
def sF58.f (k : Nat) (l0_0 : List (S76)) (a1 : Int) : Option (ByteArray) := sF58.l0 k a1 (⟨#[]⟩ : ByteArray) l0_0
theorem sF58.mono_l : ∀ k, (∀ y0 y1 y2, LeO (sF58.l0 k y0 y1 y2) (sF58.l0 (k + 1) y0 y1 y2)) ∧ (∀ y0 y1 y2 y3, LeO (sF58.j1 k y0 y1 y2 y3) (sF58.j1 (k + 1) y0 y1 y2 y3))
 | 0 => ⟨fun _ _ _ r h => by simp [sF58.l0] at h, fun _ _ _ _ r h => by simp [sF58.j1] at h⟩
 | k + 1 => by
  obtain ⟨ih0, ih1⟩ := sF58.mono_l k
  refine ⟨?_, ?_⟩
  ·
   intro y0 y1 y2
   unfold sF58.l0
   repeat' with_reducible first | exact ih0 _ _ _ | exact ih1 _ _ _ _ | exact l3_ _ | exact l0_ _ | refine l2_ ?_ ?_ | refine l1_ ?_ (fun _ => ?_)
  intro y0 y1 y2 y3
  unfold sF58.j1
  repeat' with_reducible first | exact ih0 _ _ _ | exact ih1 _ _ _ _ | exact l3_ _ | exact l0_ _ | refine l2_ ?_ ?_ | refine l1_ ?_ (fun _ => ?_)
theorem sF58.mono : ∀ a0 a1 k, LeO (sF58.f k a0 a1) (sF58.f (k + 1) a0 a1) := by
 intro a0 a1 k
 obtain ⟨ih0, ih1⟩ := sF58.mono_l k
 unfold sF58.f
 repeat' with_reducible first | exact ih0 _ _ _ | exact ih1 _ _ _ _ | exact l3_ _ | exact l0_ _ | refine l2_ ?_ ?_ | refine l1_ ?_ (fun _ => ?_)
theorem sF58.calls (k : Nat) (A0_0 : Option Addr) (c0_0 : Nat) (l0_0 : List (S76)) (a1 : Int) (r : ByteArray) (w : World) (hr0_0 : Kd.C k76 w A0_0 l0_0.length l0_0) (hc0_0 : l0_0.length ≤ c0_0) (h : sF58.f k l0_0 a1 = some r) :
  Calls Tryz.prog 58 #[.agg #[.slice A0_0 l0_0.length c0_0], .int .i64 a1] w fun e w' => e = .returned (.string r) ∧ Below w.heap.size w w' := by
 have hu36 := Tryz.underlying36
 have hu76 := Tryz.underlying76
 have HR0_0 := aM_ hr0_0
 have HC0_0 := aM_ hc0_0
 clear hr0_0 hc0_0
 have HB := aM_ (Below.refl w.heap.size w)
 have H : (sF58.l0 k a1 (⟨#[]⟩ : ByteArray) l0_0) = some r := h
 clear h
 have H' := aM_ H
 clear H
 go_enter Tryz.func58, Tryz.ntmps58
 go_wp2_with (first | ((with_reducible refine gD_ (N := 2) rfl ?_); (try (refine gate_guard (by rfl) ?_; dsimp only)); refine bE_ ?hg (N := 2) ?hd (cs := #[.slice A0_0 l0_0.length c0_0]) (t := 36) ?hr ?_; (case hd => rfl); (case hg => rfl); (case hr => (go_simp; done)); intro gb110 hg w3 hbox hb; have BK110 := aM_ (hbox); have GW110 := gw_ hg HB; replace HB := b4_ HB hb; clear hb hbox hg))
 go_loopg [1, 5] k (fun kq v1 v5 w' => ∃ (x1_1 : Int) (x5_1 : ByteArray), v1 = .int .i64 x1_1 ∧ v5 = .string x5_1 ∧ Aside0 (sF58.l0 kq x1_1 x5_1 l0_0 = some r) ∧ Aside0 (kq ≤ k) ∧ Aside0 (w'.heap[gb110]? = some (.cells #[(.slice A0_0 l0_0.length c0_0)] 36 (0, 0))) ∧ Aside0 (Below w.heap.size w w'))
 case atStart => exact ⟨(a1), ((⟨#[]⟩ : ByteArray)), (by rfl), (by rfl), H', ⟨Nat.le_refl _⟩, ⟨BK110.out⟩, ⟨HB.out⟩⟩
 clear H'
 try clear p2
 obtain ⟨x1_1, x5_1, rfl, rfl, HA, HK1, BK110, HB⟩ := hrel
 cases gk with
 | zero => exact absurd HA.out (by simp [sF58.l0])
 | succ k1 =>
  have H := HA.out
  clear HA
  simp only [sF58.l0] at H
  have HC4 := aM_ H
  clear H
  go_upto_region 2 with (fail)
  go_cut [13] (fun v13 wc => ∃ (kq : Nat) (x13_3 : Bool), v13 = .bool x13_3 ∧ Aside0 (sF58.j1 kq x1_1 x5_1 x13_3 l0_0 = some r) ∧ Aside0 (kq ≤ k1) ∧ Aside0 (wc.heap[gb110]? = some (.cells #[(.slice A0_0 l0_0.length c0_0)] 36 (0, 0))) ∧ Aside0 (Below w.heap.size w wc))
  case first =>
   have H := HC4.out
   clear HC4
   by_cases c5 : x1_1 > 0
   ·
    rw [if_pos c5] at H
    have c5b0 := dT_ c5
    clear c5
    (skip)
    have H' := aM_ H
    clear H
    go_wp2
    go_meet
    case rel => exact ⟨_, (decide ((x5_1.size : Int) ≤ 12)), (by rfl), H', ⟨by have := HK1.out; omega⟩, ⟨BK110.out⟩, ⟨HB.out⟩⟩
   rw [if_neg c5] at H
   have c5b0 := dF_ c5
   clear c5
   (skip)
   have H' := aM_ H
   clear H
   go_wp2
   go_meet
   case rel => exact ⟨_, (false), (by rfl), H', ⟨by have := HK1.out; omega⟩, ⟨BK110.out⟩, ⟨HB.out⟩⟩
  clear HC4
  try clear p2
  try clear c5b0
  try clear p2
  obtain ⟨kq, x13_3, rfl, HA, HJ3, BK110, HB⟩ := hcut
  cases kq with
  | zero => exact absurd HA.out (by simp [sF58.j1])
  | succ kj3 =>
   have H := HA.out
   clear HA
   simp only [sF58.j1] at H
   by_cases c6 : x13_3 = true
   rotate_left
   ·
    replace c6 := Bool.eq_false_iff.mpr c6
    subst c6
    replace H : (if x1_1 = 0 then (some x5_1) else (some (⟨#[63]⟩ : ByteArray))) = some r := by rw [if_neg (show ¬ (false = true) by decide)] at H; exact H
    by_cases c29 : x1_1 = 0
    ·
     rw [if_pos c29] at H
     have c29b0 : (x1_1 == 0) = true := beq_iff_eq.mpr c29
     have c29b1 : (x1_1 != 0) = false := bne_eq_false_iff_eq.mpr c29
     clear c29
     obtain rfl := Option.some.inj H
     go_wp2
     go_ret
     exact ⟨by rfl, by exact HB.out⟩
    rw [if_neg c29] at H
    have c29b0 : (x1_1 == 0) = false := beq_eq_false_iff_ne.mpr c29
    have c29b1 : (x1_1 != 0) = true := bne_iff_ne.mpr c29
    obtain rfl := Option.some.inj H
    go_wp2
    go_ret
    exact ⟨by rfl, by exact HB.out⟩
   subst c6
   rw [if_pos rfl] at H
   by_cases c7 : 0 ≤ x1_1
   rotate_left
   ·
    rw [if_neg c7] at H
    exact absurd H (by simp)
   rw [if_pos c7] at H
   have c7b0 := dT_ c7
   clear c7
   by_cases c8 : x1_1 < (l0_0.length : Int)
   rotate_left
   ·
    rw [if_neg c8] at H
    exact absurd H (by simp)
   rw [if_pos c8] at H
   have c8b0 := dT_ c8
   clear c8
   replace H := oB_.mp H
   obtain ⟨t113, A90, H⟩ := H
   try dsimp only at H
   have A9 := aM_ A90
   clear A90
   by_cases c10 : t113 = true
   rotate_left
   ·
    replace c10 := Bool.eq_false_iff.mpr c10
    subst c10
    replace H : (some (⟨#[63]⟩ : ByteArray)) = some r := by rw [if_neg (show ¬ (false = true) by decide)] at H; exact H
    obtain rfl := Option.some.inj H
    have hcz25_0 := c0_ BK110
    have hfz25_0 := bF_ BK110.out 0
    have p111 : 0 ≤ (x1_1 : Int) := oD_ ‹_›
    have q111 : x1_1 < (l0_0.length : Int) := oD_ ‹_›
    obtain ⟨ad111, e111, hx111_0, hx111_1, hx111_2⟩ := at_T76 HR0_0.out x1_1 p111 q111
    cases e111
    replace hx111_0 := cb_ HB hx111_0
    replace hx111_1 := cb_ HB hx111_1
    replace hx111_2 := cb_ HB hx111_2
    replace p111 := eq_true p111
    replace q111 := eq_true q111
    go_wp2_with (first | ((with_reducible refine gD_ (N := 6) rfl ?_); (try (refine gate_guard (by rfl) ?_; dsimp only)); refine bE_ ?hg (N := 6) ?hd (cs := #[.int .i64 0, .int .i64 0, .bool false]) (t := 76) ?hr ?_; (case hd => rfl); (case hg => rfl); (case hr => (go_simp; done)); intro gb112 hg w26 hbox hb; have BK112 := aM_ (hbox); have GW112 := gw_ hg HB; replace HB := b4_ HB hb; have NB110_112 := nb_ hg BK110; have NB112_110 := ns_ NB110_112; replace BK110 := b5_ BK110 hb; clear hb hbox hg; have hnb27 := NB112_110.out; have hnc27 := NB110_112.out; have hcz28_0 := c0_ BK112; have hcz28_1 := c1_ BK112; have hcz28_2 := c2_ BK112; have hfz28_0 := bF_ BK112.out 0; have hfz28_1 := bF_ BK112.out 1; have hfz28_2 := bF_ BK112.out 2) | (refine gs_ 21 Tryz.func54 #[.int .i64 ((rd_T76 l0_0 x1_1).f0), .int .i64 0, .int .i64 25] ?_; (with_reducible refine (sF51.calls ((rd_T76 l0_0 x1_1).f0) 0 25 false _ A9.out).mono ?_); rintro e w' ⟨rfl, ⟨nd, rfl⟩⟩; refine ⟨_, rfl, ?_⟩))
    go_ret
    exact ⟨by rfl, by repeat with_reducible first | exact HB.out | apply bA_ | apply bN_ | apply bD_ | refine bS_ ?_ (Aside0.out ‹_›)⟩
   subst c10
   rw [if_pos rfl] at H
   by_cases c11 : ((rd_T76 l0_0 x1_1).f1) ≥ x1_1
   ·
    rw [if_pos c11] at H
    have c11b0 := dT_ c11
    clear c11
    obtain rfl := Option.some.inj H
    have hcz12_0 := c0_ BK110
    have hfz12_0 := bF_ BK110.out 0
    have p111 : 0 ≤ (x1_1 : Int) := oD_ ‹_›
    have q111 : x1_1 < (l0_0.length : Int) := oD_ ‹_›
    obtain ⟨ad111, e111, hx111_0, hx111_1, hx111_2⟩ := at_T76 HR0_0.out x1_1 p111 q111
    cases e111
    replace hx111_0 := cb_ HB hx111_0
    replace hx111_1 := cb_ HB hx111_1
    replace hx111_2 := cb_ HB hx111_2
    replace p111 := eq_true p111
    replace q111 := eq_true q111
    go_wp2_with (first | ((with_reducible refine gD_ (N := 6) rfl ?_); (try (refine gate_guard (by rfl) ?_; dsimp only)); refine bE_ ?hg (N := 6) ?hd (cs := #[.int .i64 0, .int .i64 0, .bool false]) (t := 76) ?hr ?_; (case hd => rfl); (case hg => rfl); (case hr => (go_simp; done)); intro gb112 hg w13 hbox hb; have BK112 := aM_ (hbox); have GW112 := gw_ hg HB; replace HB := b4_ HB hb; have NB110_112 := nb_ hg BK110; have NB112_110 := ns_ NB110_112; replace BK110 := b5_ BK110 hb; clear hb hbox hg; have hnb14 := NB112_110.out; have hnc14 := NB110_112.out; have hcz15_0 := c0_ BK112; have hcz15_1 := c1_ BK112; have hcz15_2 := c2_ BK112; have hfz15_0 := bF_ BK112.out 0; have hfz15_1 := bF_ BK112.out 1; have hfz15_2 := bF_ BK112.out 2) | (refine gs_ 21 Tryz.func54 #[.int .i64 ((rd_T76 l0_0 x1_1).f0), .int .i64 0, .int .i64 25] ?_; (with_reducible refine (sF51.calls ((rd_T76 l0_0 x1_1).f0) 0 25 true _ A9.out).mono ?_); rintro e w' ⟨rfl, ⟨nd, rfl⟩⟩; refine ⟨_, rfl, ?_⟩))
    go_ret
    exact ⟨by rfl, by repeat with_reducible first | exact HB.out | apply bA_ | apply bN_ | apply bD_ | refine bS_ ?_ (Aside0.out ‹_›)⟩
   rw [if_neg c11] at H
   have c11b0 := dF_ c11
   clear c11
   obtain ⟨y114, hy114⟩ : ∃ y_ : List Int, y_ = (([(wrap64 (97 + ((rd_T76 l0_0 x1_1).f0))) % 256] : List Int)) := ⟨_, rfl⟩
   replace H : (if (strOfNums y114).size + x5_1.size ≤ 9223372036854775807 then (sF58.l0 kj3 ((rd_T76 l0_0 x1_1).f1) ((strOfNums y114) ++ x5_1) l0_0) else (none)) = some r := by (try rw [hy114]); first | with_reducible exact H | with_reducible exact oS_ H | exact H
   have Ny114 := aM_ hy114
   clear hy114
   by_cases c16 : (strOfNums y114).size + x5_1.size ≤ 9223372036854775807
   rotate_left
   ·
    rw [if_neg c16] at H
    exact absurd H (by simp)
   rw [if_pos c16] at H
   have c16b0 := eq_true c16
   have c16b1 := dT_ c16
   try have c16b2 : (9223372036854775807 < (strOfNums y114).size + x5_1.size) = False := eq_false (Nat.not_lt.2 c16)
   have H' := aM_ H
   clear H
   have hcz17_0 := c0_ BK110
   have hfz17_0 := bF_ BK110.out 0
   have p111 : 0 ≤ (x1_1 : Int) := oD_ ‹_›
   have q111 : x1_1 < (l0_0.length : Int) := oD_ ‹_›
   obtain ⟨ad111, e111, hx111_0, hx111_1, hx111_2⟩ := at_T76 HR0_0.out x1_1 p111 q111
   cases e111
   replace hx111_0 := cb_ HB hx111_0
   replace hx111_1 := cb_ HB hx111_1
   replace hx111_2 := cb_ HB hx111_2
   replace p111 := eq_true p111
   replace q111 := eq_true q111
   go_wp2_with (first | ((with_reducible refine gD_ (N := 6) rfl ?_); (try (refine gate_guard (by rfl) ?_; dsimp only)); refine bE_ ?hg (N := 6) ?hd (cs := #[.int .i64 0, .int .i64 0, .bool false]) (t := 76) ?hr ?_; (case hd => rfl); (case hg => rfl); (case hr => (go_simp; done)); intro gb112 hg w18 hbox hb; have BK112 := aM_ (hbox); have GW112 := gw_ hg HB; replace HB := b4_ HB hb; have NB110_112 := nb_ hg BK110; have NB112_110 := ns_ NB110_112; replace BK110 := b5_ BK110 hb; clear hb hbox hg; have hnb19 := NB112_110.out; have hnc19 := NB110_112.out; have hcz20_0 := c0_ BK112; have hcz20_1 := c1_ BK112; have hcz20_2 := c2_ BK112; have hfz20_0 := bF_ BK112.out 0; have hfz20_1 := bF_ BK112.out 1; have hfz20_2 := bF_ BK112.out 2) | (refine gs_ 21 Tryz.func54 #[.int .i64 ((rd_T76 l0_0 x1_1).f0), .int .i64 0, .int .i64 25] ?_; (with_reducible refine (sF51.calls ((rd_T76 l0_0 x1_1).f0) 0 25 true _ A9.out).mono ?_); rintro e w' ⟨rfl, ⟨nd, rfl⟩⟩; refine ⟨_, rfl, ?_⟩) | ((with_reducible refine gD_ (N := 33) rfl ?_); (try (refine gate_guard (by rfl) ?_; dsimp only)); refine Kd.R_lit (Kd.int .u8) _ 5 ?hg (N := 33) ?hd (xs := ([(wrap64 (97 + ((rd_T76 l0_0 x1_1).f0))) % 256] : List Int)) (inner := [.int .u8 ((wrap64 (97 + ((rd_T76 l0_0 x1_1).f0))) % 256)]) (ok := fun _ => True) (okp := fun _ => True) ?hr ?hp (fun _ hk => hk) trivial (Below.refl _ _) (Nat.le_refl _) (by simp) ?_; (case hd => rfl); (case hg => rfl); (case hr => (go_simp; done)); (case hp => exact (Reps.one (show Kd.M (Kd.int .u8) _ _ _ ((wrap64 (97 + ((rd_T76 l0_0 x1_1).f0))) % 256) [.int .u8 ((wrap64 (97 + ((rd_T76 l0_0 x1_1).f0))) % 256)] from rfl) (Reps.none _ _))); intro v115 w21 ho22 hb hg_ hnew_; clear hg_ hnew_; (rw [← Ny114.out] at ho22); have HO116 := aM_ (k5_ ho22 (bZ_ (by repeat with_reducible first | exact HB.out | apply bA_ | apply bN_ | apply bD_ | refine bS_ ?_ (Aside0.out ‹_›)))); replace BK110 := aM_ (bB_ (g := gb110) (o := .cells #[.slice (some ad111) l0_0.length c0_0] 36 (0, 0)) (by (with_reducible repeat (first | refine b2_ ?_ _ | refine b1_ ?_ | refine b3_ ?_ _)); exact br_ NB110_112.out (br_ NB110_112.out (br_ NB110_112.out (BK110.out)))) hb); replace BK112 := aM_ (bB_ (g := gb112) (o := .cells #[.int .i64 ((rd_T76 l0_0 x1_1).f0), .int .i64 ((rd_T76 l0_0 x1_1).f1), .bool ((rd_T76 l0_0 x1_1).f2)] 76 (0, 0)) (by (with_reducible repeat (first | refine b2_ ?_ _ | refine b1_ ?_ | refine b3_ ?_ _)); refine bP_ (cs := #[.int .i64 ((rd_T76 l0_0 x1_1).f0), .int .i64 ((rd_T76 l0_0 x1_1).f1), .bool false]) ?_ 2 _ rfl; refine bP_ (cs := #[.int .i64 ((rd_T76 l0_0 x1_1).f0), .int .i64 0, .bool false]) ?_ 1 _ rfl; refine bP_ (cs := #[.int .i64 0, .int .i64 0, .bool false]) ?_ 0 _ rfl; exact BK112.out) hb); replace HB := aM_ (bT_ (by repeat with_reducible first | exact HB.out | apply bA_ | apply bN_ | apply bD_ | refine bS_ ?_ (Aside0.out ‹_›)) hb); clear hb ho22; have hcv23 := own_string (P := Tryz.prog) Tryz.underlying93 Tryz.underlying5 Tryz.underlying9 (Kd.own_of_R HO116.out); have hcz24_0 := c0_ BK112; have hcz24_1 := c1_ BK112; have hcz24_2 := c2_ BK112; have hfz24_0 := bF_ BK112.out 0; have hfz24_1 := bF_ BK112.out 1; have hfz24_2 := bF_ BK112.out 2))
   go_roundg kj3
   case measure => have := HK1.out; have := HJ3.out; omega
   case rel => exact ⟨((rd_T76 l0_0 x1_1).f1), ((strOfNums y114) ++ x5_1), (by rfl), (by rfl), H', ⟨by have := HK1.out; have := HJ3.out; omega⟩, ⟨BK110.out⟩, ⟨HB.out⟩⟩
def sF54.l0 : Nat → Int → List Int → Int → List (S76) → Option (List Int)
 | 0, _, _, _, _ => none
 | k + 1, x1, x5, x6, x118000 => if x6 < (x118000.length : Int) then (if 0 ≤ x6 then (if ((rd_T76 x118000 x6).f1) = x1 then (if x5.length < 17592186044416 then (sF54.l0 k x1 (x5 ++ [x6]) (wrap64 (x6 + 1)) x118000) else (none)) else (sF54.l0 k x1 x5 (wrap64 (x6 + 1)) x118000)) else (none)) else (some x5)
def sF54.f (k : Nat) (l0_0 : List (S76)) (a1 : Int) : Option (List Int) := sF54.l0 k a1 (([] : List Int)) (wrap64 (a1 + 1)) l0_0
theorem sF54.mono_l : ∀ k, (∀ y0 y1 y2 y3, LeO (sF54.l0 k y0 y1 y2 y3) (sF54.l0 (k + 1) y0 y1 y2 y3))
 | 0 => fun _ _ _ _ r h => by simp [sF54.l0] at h
 | k + 1 => by
  have ih0 := sF54.mono_l k
  intro y0 y1 y2 y3
  unfold sF54.l0
  repeat' with_reducible first | exact ih0 _ _ _ _ | exact l3_ _ | exact l0_ _ | refine l2_ ?_ ?_ | refine l1_ ?_ (fun _ => ?_)
theorem sF54.mono : ∀ a0 a1 k, LeO (sF54.f k a0 a1) (sF54.f (k + 1) a0 a1) := by
 intro a0 a1 k
 have ih0 := sF54.mono_l k
 unfold sF54.f
 repeat' with_reducible first | exact ih0 _ _ _ _ | exact l3_ _ | exact l0_ _ | refine l2_ ?_ ?_ | refine l1_ ?_ (fun _ => ?_)
theorem sF54.calls (k : Nat) (A0_0 : Option Addr) (c0_0 : Nat) (l0_0 : List (S76)) (a1 : Int) (r : List Int) (w : World) (hr0_0 : Kd.C k76 w A0_0 l0_0.length l0_0) (hc0_0 : l0_0.length ≤ c0_0) (h : sF54.f k l0_0 a1 = some r) :
  Calls Tryz.prog 91 #[.agg #[.slice A0_0 l0_0.length c0_0], .int .i64 a1] w fun e w' => ∃ v0_ : Value, e = .returned (v0_) ∧ Kd.R (Kd.int .i64) 3 w' w.heap.size (fun _ => True) v0_ r ∧ Below w.heap.size w w' := by
 have hu36 := Tryz.underlying36
 have HR0_0 := aM_ hr0_0
 have HC0_0 := aM_ hc0_0
 clear hr0_0 hc0_0
 have HB := aM_ (Below.refl w.heap.size w)
 have H : (sF54.l0 k a1 (([] : List Int)) (wrap64 (a1 + 1)) l0_0) = some r := h
 clear h
 obtain ⟨y118, hy118⟩ : ∃ y_ : List Int, y_ = (([] : List Int)) := ⟨_, rfl⟩
 replace H : (sF54.l0 k a1 y118 (wrap64 (a1 + 1)) l0_0) = some r := by (try rw [hy118]); first | with_reducible exact H | with_reducible exact oS_ H | exact H
 have Ny118 := aM_ hy118
 clear hy118
 have H' := aM_ H
 clear H
 go_enter Tryz.func91, Tryz.ntmps91
 go_wp2_with (first | (refine bx_ 2 #[.slice A0_0 l0_0.length c0_0] 36 ?_; intro gb117 hg w3 hbox hb; have BK117 := aM_ (hbox); have GW117 := gw_ hg HB; replace HB := b4_ HB hb; clear hb hbox hg) | ((with_reducible refine gD_ (N := 7) rfl ?_); refine Kd.R_lit (Kd.int .i64) _ 3 ?hg (N := 7) ?hd (xs := ([] : List Int)) (inner := []) (ok := fun _ => True) (okp := fun _ => True) ?hr ?hp (fun _ hk => hk) trivial (Below.refl _ _) (Nat.le_refl _) (by simp) ?_; (case hd => rfl); (case hg => rfl); (case hr => (go_simp; done)); (case hp => exact (Reps.none _ _)); intro v119 w4 ho5 hb hg_ hnew_; clear hg_ hnew_; (rw [← Ny118.out] at ho5); have HO120 := aM_ (k5_ ho5 (bZ_ HB.out)); replace BK117 := b5_ BK117 hb; replace HB := b4_ HB hb; clear hb ho5))
 go_loopg [5, 6] k (fun kq v5 v6 w' => ∃ (x5_1 : List Int) (x6_1 : Int), v6 = .int .i64 x6_1 ∧ Aside0 (sF54.l0 kq a1 x5_1 x6_1 l0_0 = some r) ∧ Aside0 (kq ≤ k) ∧ Aside0 (Kd.R (Kd.int .i64) 3 w' w.heap.size (fun _ => True) v5 x5_1) ∧ Aside0 (w'.heap[gb117]? = some (.cells #[(.slice A0_0 l0_0.length c0_0)] 36 (0, 0))) ∧ Aside0 (Below w.heap.size w w'))
 case atStart => exact ⟨(y118), (wrap64 (a1 + 1)), (by rfl), H', ⟨Nat.le_refl _⟩, ⟨HO120.out⟩, ⟨BK117.out⟩, ⟨HB.out⟩⟩
 clear H'
 try clear p2
 obtain ⟨x5_1, x6_1, rfl, HA, HK1, HO_5, BK117, HB⟩ := hrel
 cases gk with
 | zero => exact absurd HA.out (by simp [sF54.l0])
 | succ k1 =>
  have H := HA.out
  clear HA
  simp only [sF54.l0] at H
  by_cases c6 : x6_1 < (l0_0.length : Int)
  rotate_left
  ·
   rw [if_neg c6] at H
   have c6b0 := dF_ c6
   clear c6
   obtain rfl := Option.some.inj H
   have hcz13_0 := c0_ BK117
   have hfz13_0 := bF_ BK117.out 0
   go_wp2
   go_ret
   exact ⟨_, by rfl, by exact HO_5.out, by exact HB.out⟩
  rw [if_pos c6] at H
  have c6b0 := dT_ c6
  clear c6
  by_cases c7 : 0 ≤ x6_1
  rotate_left
  ·
   rw [if_neg c7] at H
   exact absurd H (by simp)
  rw [if_pos c7] at H
  have c7b0 := dT_ c7
  clear c7
  by_cases c8 : ((rd_T76 l0_0 x6_1).f1) = a1
  ·
   rw [if_pos c8] at H
   have c8b0 : (((rd_T76 l0_0 x6_1).f1) == a1) = true := beq_iff_eq.mpr c8
   have c8b1 : (((rd_T76 l0_0 x6_1).f1) != a1) = false := bne_eq_false_iff_eq.mpr c8
   clear c8
   by_cases c9 : x5_1.length < 17592186044416
   rotate_left
   ·
    rw [if_neg c9] at H
    exact absurd H (by simp)
   rw [if_pos c9] at H
   have LMc9 := aM_ c9
   clear c9
   obtain ⟨y122, hy122⟩ : ∃ y_ : List Int, y_ = (x5_1 ++ [x6_1]) := ⟨_, rfl⟩
   replace H : (sF54.l0 k1 a1 y122 (wrap64 (x6_1 + 1)) l0_0) = some r := by (try rw [hy122]); first | with_reducible exact H | with_reducible exact oS_ H | exact H
   have Ny122 := aM_ hy122
   clear hy122
   have H' := aM_ H
   clear H
   have hcz10_0 := c0_ BK117
   have hfz10_0 := bF_ BK117.out 0
   have p121 : 0 ≤ (x6_1 : Int) := oD_ ‹_›
   have q121 : x6_1 < (l0_0.length : Int) := oD_ ‹_›
   obtain ⟨ad121, e121, hx121_0, hx121_1, hx121_2⟩ := at_T76 HR0_0.out x6_1 p121 q121
   cases e121
   replace hx121_0 := cb_ HB hx121_0
   replace hx121_1 := cb_ HB hx121_1
   replace hx121_2 := cb_ HB hx121_2
   replace p121 := eq_true p121
   replace q121 := eq_true q121
   go_wp2_with (first | ((with_reducible refine gate_builtin (b := .append) (xs := #[.tmp 25, .tmp 27]) rfl ?_); at_builtin; refine Kd.R_append (Kd.int .i64) (w0 := w) w.heap.size rfl (.tmp 25) (.tmp 27) 87 3 (.int .i64 0) 8 rfl Tryz.underlying87 info3 rfl (by decide) (by omega) u5 x5_1 x6_1 [.int .i64 x6_1] (fun _ => True) (fun _ => False) rfl rfl ?aP (fun _ hk => hk.elim) ?aF ?aO ?aB ?aS ?aL ?_; (case aP => exact rfl); (case aB => exact HB.out); (case aF => exact (fun _ _ => trivial)); (case aO => exact HO_5.out); (case aS => exact (bZ_ HB.out)); (case aL => have := LMc9.out; omega); intro v123 w11 ho hb hg hat; rw [← Ny122.out] at ho; have n0_ := aM_ (blk_grown (g := gb117) (o := .cells #[.slice (some ad121) l0_0.length c0_0] 36 (0, 0)) BK117.out hg (k6_ HO_5.out BK117.out (by decide))); have n1_ := aM_ (hb); have n2_ := aM_ (ho); clear BK117; clear HB; clear HO_5; have BK117 := n0_; have HB := n1_; have HO124 := n2_; clear n0_ n1_ n2_; clear ho hb hg hat))
   go_roundg k1
   case measure => have := HK1.out; omega
   case rel => exact ⟨(y122), (wrap64 (x6_1 + 1)), (by rfl), H', ⟨by have := HK1.out; omega⟩, ⟨HO124.out⟩, ⟨BK117.out⟩, ⟨HB.out⟩⟩
  rw [if_neg c8] at H
  have c8b0 : (((rd_T76 l0_0 x6_1).f1) == a1) = false := beq_eq_false_iff_ne.mpr c8
  have c8b1 : (((rd_T76 l0_0 x6_1).f1) != a1) = true := bne_iff_ne.mpr c8
  have H' := aM_ H
  clear H
  have hcz12_0 := c0_ BK117
  have hfz12_0 := bF_ BK117.out 0
  have p121 : 0 ≤ (x6_1 : Int) := oD_ ‹_›
  have q121 : x6_1 < (l0_0.length : Int) := oD_ ‹_›
  obtain ⟨ad121, e121, hx121_0, hx121_1, hx121_2⟩ := at_T76 HR0_0.out x6_1 p121 q121
  cases e121
  replace hx121_0 := cb_ HB hx121_0
  replace hx121_1 := cb_ HB hx121_1
  replace hx121_2 := cb_ HB hx121_2
  replace p121 := eq_true p121
  replace q121 := eq_true q121
  go_wp2
  go_roundg k1
  case measure => have := HK1.out; omega
  case rel => exact ⟨(x5_1), (wrap64 (x6_1 + 1)), (by rfl), H', ⟨by have := HK1.out; omega⟩, ⟨HO_5.out⟩, ⟨BK117.out⟩, ⟨HB.out⟩⟩
def sF72.f (k : Nat) (l0_0 : List (S76)) (a1 : Int) : Option (Bool) := if a1 = 0 then (some true) else (if 0 ≤ a1 then (if a1 < (l0_0.length : Int) then (if (rd_T76 l0_0 a1).f2 = true then (some true) else ((sF54.f k l0_0 a1).bind fun t127 => (some ((t127.length : Int) != 1)))) else (none)) else (none))
theorem sF72.mono : ∀ a0 a1 k, LeO (sF72.f k a0 a1) (sF72.f (k + 1) a0 a1) := by
 intro a0 a1 k
 unfold sF72.f
 repeat' with_reducible first | exact sF54.mono _ _ _ | exact l3_ _ | exact l0_ _ | refine l2_ ?_ ?_ | refine l1_ ?_ (fun _ => ?_)
theorem sF72.calls (k : Nat) (A0_0 : Option Addr) (c0_0 : Nat) (l0_0 : List (S76)) (a1 : Int) (r : Bool) (w : World) (hr0_0 : Kd.C k76 w A0_0 l0_0.length l0_0) (hc0_0 : l0_0.length ≤ c0_0) (h : sF72.f k l0_0 a1 = some r) :
  Calls Tryz.prog 75 #[.agg #[.slice A0_0 l0_0.length c0_0], .int .i64 a1] w fun e w' => e = .returned (.bool r) ∧ Below w.heap.size w w' := by
 have hu36 := Tryz.underlying36
 have HR0_0 := aM_ hr0_0
 have HC0_0 := aM_ hc0_0
 clear hr0_0 hc0_0
 have HB := aM_ (Below.refl w.heap.size w)
 have H : (if a1 = 0 then (some true) else (if 0 ≤ a1 then (if a1 < (l0_0.length : Int) then (if (rd_T76 l0_0 a1).f2 = true then (some true) else ((sF54.f k l0_0 a1).bind fun t127 => (some ((t127.length : Int) != 1)))) else (none)) else (none))) = some r := h
 clear h
 by_cases c3 : a1 = 0
 ·
  rw [if_pos c3] at H
  have c3b0 : (a1 == 0) = true := beq_iff_eq.mpr c3
  have c3b1 : (a1 != 0) = false := bne_eq_false_iff_eq.mpr c3
  clear c3
  obtain rfl := Option.some.inj H
  go_enter Tryz.func75, Tryz.ntmps75
  go_wp2_with (first | ((with_reducible refine gD_ (N := 2) rfl ?_); (try (refine gate_guard (by rfl) ?_; dsimp only)); refine bE_ ?hg (N := 2) ?hd (cs := #[.slice A0_0 l0_0.length c0_0]) (t := 36) ?hr ?_; (case hd => rfl); (case hg => rfl); (case hr => (go_simp; done)); intro gb125 hg w4 hbox hb; have BK125 := aM_ (hbox); have GW125 := gw_ hg HB; replace HB := b4_ HB hb; clear hb hbox hg))
  go_ret
  exact ⟨by rfl, by exact HB.out⟩
 rw [if_neg c3] at H
 have c3b0 : (a1 == 0) = false := beq_eq_false_iff_ne.mpr c3
 have c3b1 : (a1 != 0) = true := bne_iff_ne.mpr c3
 by_cases c5 : 0 ≤ a1
 rotate_left
 ·
  rw [if_neg c5] at H
  exact absurd H (by simp)
 rw [if_pos c5] at H
 have c5b0 := dT_ c5
 clear c5
 by_cases c6 : a1 < (l0_0.length : Int)
 rotate_left
 ·
  rw [if_neg c6] at H
  exact absurd H (by simp)
 rw [if_pos c6] at H
 have c6b0 := dT_ c6
 clear c6
 obtain ⟨bq7, hbq7⟩ : ∃ b_ : Bool, b_ = ((rd_T76 l0_0 a1).f2) := ⟨_, rfl⟩
 replace H : (if bq7 = true then (some true) else ((sF54.f k l0_0 a1).bind fun t127 => (some ((t127.length : Int) != 1)))) = some r := by rw [← hbq7] at H; exact H
 have Nbq7 := aM_ hbq7
 clear hbq7
 by_cases c8 : bq7 = true
 ·
  subst c8
  rw [if_pos rfl] at H
  obtain rfl := Option.some.inj H
  go_enter Tryz.func75, Tryz.ntmps75
  go_wp2_with (first | ((with_reducible refine gD_ (N := 2) rfl ?_); (try (refine gate_guard (by rfl) ?_; dsimp only)); refine bE_ ?hg (N := 2) ?hd (cs := #[.slice A0_0 l0_0.length c0_0]) (t := 36) ?hr ?_; (case hd => rfl); (case hg => rfl); (case hr => (go_simp; done)); intro gb125 hg w9 hbox hb; have BK125 := aM_ (hbox); have GW125 := gw_ hg HB; replace HB := b4_ HB hb; clear hb hbox hg; have hcz10_0 := c0_ BK125; have hfz10_0 := bF_ BK125.out 0; have p126 : 0 ≤ (a1 : Int) := oD_ ‹_›; have q126 : a1 < (l0_0.length : Int) := oD_ ‹_›; obtain ⟨ad126, e126, hx126_0, hx126_1, hx126_2⟩ := at_T76 HR0_0.out a1 p126 q126; (try rw [← Nbq7.out] at hx126_2); cases e126; replace hx126_0 := cb_ HB hx126_0; replace hx126_1 := cb_ HB hx126_1; replace hx126_2 := cb_ HB hx126_2; replace p126 := eq_true p126; replace q126 := eq_true q126))
  go_ret
  exact ⟨by rfl, by exact HB.out⟩
 replace c8 := Bool.eq_false_iff.mpr c8
 subst c8
 replace H : ((sF54.f k l0_0 a1).bind fun t127 => (some ((t127.length : Int) != 1))) = some r := by rw [if_neg (show ¬ (false = true) by decide)] at H; exact H
 replace H := oB_.mp H
 obtain ⟨t127, A110, H⟩ := H
 try dsimp only at H
 have A11 := aM_ A110
 clear A110
 obtain rfl := Option.some.inj H
 go_enter Tryz.func75, Tryz.ntmps75
 go_wp2_with (first | ((with_reducible refine gD_ (N := 2) rfl ?_); (try (refine gate_guard (by rfl) ?_; dsimp only)); refine bE_ ?hg (N := 2) ?hd (cs := #[.slice A0_0 l0_0.length c0_0]) (t := 36) ?hr ?_; (case hd => rfl); (case hg => rfl); (case hr => (go_simp; done)); intro gb125 hg w12 hbox hb; have BK125 := aM_ (hbox); have GW125 := gw_ hg HB; replace HB := b4_ HB hb; clear hb hbox hg; have hcz13_0 := c0_ BK125; have hfz13_0 := bF_ BK125.out 0; have p126 : 0 ≤ (a1 : Int) := oD_ ‹_›; have q126 : a1 < (l0_0.length : Int) := oD_ ‹_›; obtain ⟨ad126, e126, hx126_0, hx126_1, hx126_2⟩ := at_T76 HR0_0.out a1 p126 q126; (try rw [← Nbq7.out] at hx126_2); cases e126; replace hx126_0 := cb_ HB hx126_0; replace hx126_1 := cb_ HB hx126_1; replace hx126_2 := cb_ HB hx126_2; replace p126 := eq_true p126; replace q126 := eq_true q126) | (go_at_call 91; (with_reducible refine (sF54.calls k _ _ l0_0 a1 t127 _ ?side1 HC0_0.out A11.out).mono ?_); (case side1 => repeat (first | exact (k4_ HR0_0.out HB.out) | with_reducible first | apply cA_ | apply cN_ | apply cD_)); rintro e w14 ⟨v128, rfl, ho0, hb⟩; have HO129 := aM_ (k5_ ho0 (bZ_ HB.out)); replace BK125 := b5_ BK125 hb; replace HB := b4_ HB hb; (try clear hb); (try clear ho0); obtain ⟨Ao15, co15, eo15⟩ := kS_ HO129.out; subst eo15))
 go_ret
 exact ⟨by rfl, by exact HB.out⟩
def sF71.l0 : Nat → List Int → Int → List (S76) → Option (List Int)
 | 0, _, _, _ => none
 | k + 1, x3, x4, x131000 => if x4 < (x131000.length : Int) then ((sF72.f k x131000 x4).bind fun t134 => (if t134 = true then (if x3.length < 17592186044416 then (sF71.l0 k (x3 ++ [x4]) (wrap64 (x4 + 1)) x131000) else (none)) else (sF71.l0 k x3 (wrap64 (x4 + 1)) x131000))) else (some x3)
def sF71.f (k : Nat) (l0_0 : List (S76)) : Option (List Int) := sF71.l0 k (([] : List Int)) 0 l0_0
theorem sF71.mono_l : ∀ k, (∀ y0 y1 y2, LeO (sF71.l0 k y0 y1 y2) (sF71.l0 (k + 1) y0 y1 y2))
 | 0 => fun _ _ _ r h => by simp [sF71.l0] at h
 | k + 1 => by
  have ih0 := sF71.mono_l k
  intro y0 y1 y2
  unfold sF71.l0
  repeat' with_reducible first | exact ih0 _ _ _ | exact sF72.mono _ _ _ | exact l3_ _ | exact l0_ _ | refine l2_ ?_ ?_ | refine l1_ ?_ (fun _ => ?_)
theorem sF71.mono : ∀ a0 k, LeO (sF71.f k a0) (sF71.f (k + 1) a0) := by
 intro a0 k
 have ih0 := sF71.mono_l k
 unfold sF71.f
 repeat' with_reducible first | exact ih0 _ _ _ | exact sF72.mono _ _ _ | exact l3_ _ | exact l0_ _ | refine l2_ ?_ ?_ | refine l1_ ?_ (fun _ => ?_)
theorem sF71.calls (k : Nat) (A0_0 : Option Addr) (c0_0 : Nat) (l0_0 : List (S76)) (r : List Int) (w : World) (hr0_0 : Kd.C k76 w A0_0 l0_0.length l0_0) (hc0_0 : l0_0.length ≤ c0_0) (h : sF71.f k l0_0 = some r) :
  Calls Tryz.prog 74 #[.agg #[.slice A0_0 l0_0.length c0_0]] w fun e w' => ∃ v0_ : Value, e = .returned (v0_) ∧ Kd.R (Kd.int .i64) 3 w' w.heap.size (fun _ => True) v0_ r ∧ Below w.heap.size w w' := by
 have hu36 := Tryz.underlying36
 have HR0_0 := aM_ hr0_0
 have HC0_0 := aM_ hc0_0
 clear hr0_0 hc0_0
 have HB := aM_ (Below.refl w.heap.size w)
 have H : (sF71.l0 k (([] : List Int)) 0 l0_0) = some r := h
 clear h
 obtain ⟨y131, hy131⟩ : ∃ y_ : List Int, y_ = (([] : List Int)) := ⟨_, rfl⟩
 replace H : (sF71.l0 k y131 0 l0_0) = some r := by (try rw [hy131]); first | with_reducible exact H | with_reducible exact oS_ H | exact H
 have Ny131 := aM_ hy131
 clear hy131
 have H' := aM_ H
 clear H
 go_enter Tryz.func74, Tryz.ntmps74
 go_wp2_with (first | (refine bx_ 1 #[.slice A0_0 l0_0.length c0_0] 36 ?_; intro gb130 hg w2 hbox hb; have BK130 := aM_ (hbox); have GW130 := gw_ hg HB; replace HB := b4_ HB hb; clear hb hbox hg) | ((with_reducible refine gD_ (N := 5) rfl ?_); refine Kd.R_lit (Kd.int .i64) _ 3 ?hg (N := 5) ?hd (xs := ([] : List Int)) (inner := []) (ok := fun _ => True) (okp := fun _ => True) ?hr ?hp (fun _ hk => hk) trivial (Below.refl _ _) (Nat.le_refl _) (by simp) ?_; (case hd => rfl); (case hg => rfl); (case hr => (go_simp; done)); (case hp => exact (Reps.none _ _)); intro v132 w3 ho4 hb hg_ hnew_; clear hg_ hnew_; (rw [← Ny131.out] at ho4); have HO133 := aM_ (k5_ ho4 (bZ_ HB.out)); replace BK130 := b5_ BK130 hb; replace HB := b4_ HB hb; clear hb ho4))
 go_loopg [3, 4] k (fun kq v3 v4 w' => ∃ (x3_1 : List Int) (x4_1 : Int), v4 = .int .i64 x4_1 ∧ Aside0 (sF71.l0 kq x3_1 x4_1 l0_0 = some r) ∧ Aside0 (kq ≤ k) ∧ Aside0 (Kd.R (Kd.int .i64) 3 w' w.heap.size (fun _ => True) v3 x3_1) ∧ Aside0 (w'.heap[gb130]? = some (.cells #[(.slice A0_0 l0_0.length c0_0)] 36 (0, 0))) ∧ Aside0 (Below w.heap.size w w'))
 case atStart => exact ⟨(y131), (0), (by rfl), H', ⟨Nat.le_refl _⟩, ⟨HO133.out⟩, ⟨BK130.out⟩, ⟨HB.out⟩⟩
 clear H'
 try clear p2
 obtain ⟨x3_1, x4_1, rfl, HA, HK1, HO_3, BK130, HB⟩ := hrel
 cases gk with
 | zero => exact absurd HA.out (by simp [sF71.l0])
 | succ k1 =>
  have H := HA.out
  clear HA
  simp only [sF71.l0] at H
  by_cases c5 : x4_1 < (l0_0.length : Int)
  rotate_left
  ·
   rw [if_neg c5] at H
   have c5b0 := dF_ c5
   clear c5
   obtain rfl := Option.some.inj H
   have hcz14_0 := c0_ BK130
   have hfz14_0 := bF_ BK130.out 0
   go_wp2
   go_ret
   exact ⟨_, by rfl, by exact HO_3.out, by exact HB.out⟩
  rw [if_pos c5] at H
  have c5b0 := dT_ c5
  clear c5
  replace H := oB_.mp H
  obtain ⟨t134, A60, H⟩ := H
  try dsimp only at H
  have A6 := aM_ A60
  clear A60
  by_cases c7 : t134 = true
  ·
   subst c7
   rw [if_pos rfl] at H
   by_cases c8 : x3_1.length < 17592186044416
   ·
    rw [if_pos c8] at H
    have LMc8 := aM_ c8
    clear c8
    obtain ⟨y135, hy135⟩ : ∃ y_ : List Int, y_ = (x3_1 ++ [x4_1]) := ⟨_, rfl⟩
    replace H : (sF71.l0 k1 y135 (wrap64 (x4_1 + 1)) l0_0) = some r := by (try rw [hy135]); first | with_reducible exact H | with_reducible exact oS_ H | exact H
    have Ny135 := aM_ hy135
    clear hy135
    have H' := aM_ H
    clear H
    have hcz9_0 := c0_ BK130
    have hfz9_0 := bF_ BK130.out 0
    go_wp2_with (first | (refine gs_ 15 Tryz.func75 #[.agg #[.slice A0_0 l0_0.length c0_0], .int .i64 x4_1] ?_; (with_reducible refine (sF72.calls k1 _ _ l0_0 x4_1 true _ ?side1 HC0_0.out A6.out).mono ?_); (case side1 => repeat (first | exact (k4_ HR0_0.out HB.out) | with_reducible first | apply cA_ | apply cN_ | apply cD_)); rintro e w10 ⟨rfl, hb⟩; refine ⟨_, rfl, ?_⟩; replace HO_3 := k9_ HO_3 hb; replace BK130 := b5_ BK130 hb; replace HB := b4_ HB hb; (try clear hb)) | ((with_reducible refine gate_builtin (b := .append) (xs := #[.tmp 16, .tmp 18]) rfl ?_); at_builtin; refine Kd.R_append (Kd.int .i64) (w0 := w) w.heap.size rfl (.tmp 16) (.tmp 18) 87 3 (.int .i64 0) 8 rfl Tryz.underlying87 info3 rfl (by decide) (by omega) u3 x3_1 x4_1 [.int .i64 x4_1] (fun _ => True) (fun _ => False) rfl rfl ?aP (fun _ hk => hk.elim) ?aF ?aO ?aB ?aS ?aL ?_; (case aP => exact rfl); (case aB => exact HB.out); (case aF => exact (fun _ _ => trivial)); (case aO => exact HO_3.out); (case aS => exact (bZ_ HB.out)); (case aL => have := LMc8.out; omega); intro v136 w11 ho hb hg hat; rw [← Ny135.out] at ho; have n0_ := aM_ (blk_grown (g := gb130) (o := .cells #[.slice A0_0 l0_0.length c0_0] 36 (0, 0)) BK130.out hg (k6_ HO_3.out BK130.out (by decide))); have n1_ := aM_ (hb); have n2_ := aM_ (ho); clear BK130; clear HB; clear HO_3; have BK130 := n0_; have HB := n1_; have HO137 := n2_; clear n0_ n1_ n2_; clear ho hb hg hat))
    go_roundg k1
    case measure => have := HK1.out; omega
    case rel => exact ⟨(y135), (wrap64 (x4_1 + 1)), (by rfl), H', ⟨by have := HK1.out; omega⟩, ⟨HO137.out⟩, ⟨BK130.out⟩, ⟨HB.out⟩⟩
   rw [if_neg c8] at H
   exact absurd H (by simp)
  replace c7 := Bool.eq_false_iff.mpr c7
  subst c7
  replace H : (sF71.l0 k1 x3_1 (wrap64 (x4_1 + 1)) l0_0) = some r := by rw [if_neg (show ¬ (false = true) by decide)] at H; exact H
  have H' := aM_ H
  clear H
  have hcz12_0 := c0_ BK130
  have hfz12_0 := bF_ BK130.out 0
  go_wp2_with (first | (refine gs_ 15 Tryz.func75 #[.agg #[.slice A0_0 l0_0.length c0_0], .int .i64 x4_1] ?_; (with_reducible refine (sF72.calls k1 _ _ l0_0 x4_1 false _ ?side1 HC0_0.out A6.out).mono ?_); (case side1 => repeat (first | exact (k4_ HR0_0.out HB.out) | with_reducible first | apply cA_ | apply cN_ | apply cD_)); rintro e w13 ⟨rfl, hb⟩; refine ⟨_, rfl, ?_⟩; replace HO_3 := k9_ HO_3 hb; replace BK130 := b5_ BK130 hb; replace HB := b4_ HB hb; (try clear hb)))
  go_roundg k1
  case measure => have := HK1.out; omega
  case rel => exact ⟨(x3_1), (wrap64 (x4_1 + 1)), (by rfl), H', ⟨by have := HK1.out; omega⟩, ⟨HO_3.out⟩, ⟨BK130.out⟩, ⟨HB.out⟩⟩
mutual
def sF69.l0 : Nat → List Int → Int → List (S76) → List (S60) → Option ((List (S60)))
 | 0, _, _, _, _ => none
 | k + 1, x4, x5, x139000, x147000 => if x5 < (x4.length : Int) then (if 0 ≤ x5 then (if 0 ≤ (rd x4 x5) then (if (rd x4 x5) < (x139000.length : Int) then (if x5 > 0 then (sF69.l1 k x4 x5 ((rd_T76 x139000 (rd x4 x5)).f1) x139000 x147000 (⟨#[]⟩ : ByteArray) (-1) ((rd_T76 x139000 (rd x4 x5)).f2)) else (if x147000.length < 4398046511104 then (sF69.l0 k x4 (wrap64 (x5 + 1)) x139000 (x147000 ++ [(⟨(⟨#[]⟩ : ByteArray), (-1), (rd_T76 x139000 (rd x4 x5)).f2⟩ : S60)])) else (none))) else (none)) else (none)) else (none)) else (some x147000)
def sF69.l1 : Nat → List Int → Int → Int → List (S76) → List (S60) → ByteArray → Int → Bool → Option ((List (S60)))
 | 0, _, _, _, _, _, _, _, _ => none
 | k + 1, x4, x5, x7, x139000, x147000, x150000, x150001, x150002 => (sF72.f k x139000 x7).bind fun t152 => (if t152 = true then (if 0 ≤ x5 then (if x5 < (x4.length : Int) then ((sF58.f k x139000 (rd x4 x5)).bind fun t155 => ((sF58.f k x139000 x7).bind fun t156 => (if 0 ≤ (t156.size : Int) then (if (t156.size : Int) ≤ (t155.size : Int) then (sF69.l2 k x4 x5 x7 0 x139000 x147000 (t155.extract ((t156.size : Int) : Int).toNat t155.size) x150001 x150002) else (none)) else (none)))) else (none)) else (none)) else (if 0 ≤ x7 then (if x7 < (x139000.length : Int) then (sF69.l1 k x4 x5 ((rd_T76 x139000 x7).f1) x139000 x147000 x150000 x150001 x150002) else (none)) else (none)))
def sF69.l2 : Nat → List Int → Int → Int → Int → List (S76) → List (S60) → ByteArray → Int → Bool → Option ((List (S60)))
 | 0, _, _, _, _, _, _, _, _, _ => none
 | k + 1, x4, x5, x7, x8, x139000, x147000, x150000, x150001, x150002 => if x8 < x5 then (if 0 ≤ x8 then (if x8 < (x4.length : Int) then (if (rd x4 x8) = x7 then (sF69.l2 k x4 x5 x7 (wrap64 (x8 + 1)) x139000 x147000 x150000 x8 x150002) else (sF69.l2 k x4 x5 x7 (wrap64 (x8 + 1)) x139000 x147000 x150000 x150001 x150002)) else (none)) else (none)) else (if x147000.length < 4398046511104 then (sF69.l0 k x4 (wrap64 (x5 + 1)) x139000 (x147000 ++ [(⟨x150000, x150001, x150002⟩ : S60)])) else (none))
end
def sF69.f (k : Nat) (l0_0 : List (S76)) : Option ((List (S60))) := (sF71.f k l0_0).bind fun t143 => (sF69.l0 k t143 0 l0_0 (([] : List (S60))))
theorem sF69.mono_l : ∀ k, (∀ y0 y1 y2 y3, LeO (sF69.l0 k y0 y1 y2 y3) (sF69.l0 (k + 1) y0 y1 y2 y3)) ∧ (∀ y0 y1 y2 y3 y4 y5 y6 y7, LeO (sF69.l1 k y0 y1 y2 y3 y4 y5 y6 y7) (sF69.l1 (k + 1) y0 y1 y2 y3 y4 y5 y6 y7)) ∧ (∀ y0 y1 y2 y3 y4 y5 y6 y7 y8, LeO (sF69.l2 k y0 y1 y2 y3 y4 y5 y6 y7 y8) (sF69.l2 (k + 1) y0 y1 y2 y3 y4 y5 y6 y7 y8))
 | 0 => ⟨fun _ _ _ _ r h => by simp [sF69.l0] at h, fun _ _ _ _ _ _ _ _ r h => by simp [sF69.l1] at h, fun _ _ _ _ _ _ _ _ _ r h => by simp [sF69.l2] at h⟩
 | k + 1 => by
  obtain ⟨ih0, ih1, ih2⟩ := sF69.mono_l k
  refine ⟨?_, ?_, ?_⟩
  ·
   intro y0 y1 y2 y3
   unfold sF69.l0
   repeat' with_reducible first | exact ih0 _ _ _ _ | exact ih1 _ _ _ _ _ _ _ _ | exact ih2 _ _ _ _ _ _ _ _ _ | exact sF58.mono _ _ _ | exact sF71.mono _ _ | exact sF72.mono _ _ _ | exact l3_ _ | exact l0_ _ | refine l2_ ?_ ?_ | refine l1_ ?_ (fun _ => ?_)
  ·
   intro y0 y1 y2 y3 y4 y5 y6 y7
   unfold sF69.l1
   repeat' with_reducible first | exact ih0 _ _ _ _ | exact ih1 _ _ _ _ _ _ _ _ | exact ih2 _ _ _ _ _ _ _ _ _ | exact sF58.mono _ _ _ | exact sF71.mono _ _ | exact sF72.mono _ _ _ | exact l3_ _ | exact l0_ _ | refine l2_ ?_ ?_ | refine l1_ ?_ (fun _ => ?_)
  intro y0 y1 y2 y3 y4 y5 y6 y7 y8
  unfold sF69.l2
  repeat' with_reducible first | exact ih0 _ _ _ _ | exact ih1 _ _ _ _ _ _ _ _ | exact ih2 _ _ _ _ _ _ _ _ _ | exact sF58.mono _ _ _ | exact sF71.mono _ _ | exact sF72.mono _ _ _ | exact l3_ _ | exact l0_ _ | refine l2_ ?_ ?_ | refine l1_ ?_ (fun _ => ?_)
theorem sF69.mono : ∀ a0 k, LeO (sF69.f k a0) (sF69.f (k + 1) a0) := by
 intro a0 k
 obtain ⟨ih0, ih1, ih2⟩ := sF69.mono_l k
 unfold sF69.f
 repeat' with_reducible first | exact ih0 _ _ _ _ | exact ih1 _ _ _ _ _ _ _ _ | exact ih2 _ _ _ _ _ _ _ _ _ | exact sF58.mono _ _ _ | exact sF71.mono _ _ | exact sF72.mono _ _ _ | exact l3_ _ | exact l0_ _ | refine l2_ ?_ ?_ | refine l1_ ?_ (fun _ => ?_)
def sF69.T5 : Bool × List (List Nat × List Nat) := (true, [([], []), ([0], [0]), ([], []), ([], []), ([2, 3], [2, 3]), ([4], [4]), ([1, 5], [1, 5]), ([6], [6]), ([7], [7]), ([8], [8]), ([], []), ([10, 9, 0, 1, 2, 3, 4, 5, 6, 7, 8, 9, 10], [9, 10])])
def sF69.B5 : List Nat := [0, 1, 0, 0, 12, 28, 63, 127, 255, 511, 0, 2047]
theorem sF69.tab5 : rtab .any (opsOf Tryz.f47 5) = sF69.T5 := by kernel_rfl
theorem sF69.bits5 : waitsOk sF69.T5.2 sF69.B5 = true := by kernel_rfl
def sF69.T7 : Bool × List (List Nat × List Nat) := (true, [([], []), ([0], [0]), ([], []), ([], []), ([2, 3], [2, 3]), ([4], [4]), ([1, 5], [1, 5]), ([6], [6]), ([7], [7]), ([8, 0, 1, 2, 3, 4, 5, 6, 7, 8], [8])])
def sF69.B7 : List Nat := [0, 1, 0, 0, 12, 28, 63, 127, 255, 511]
theorem sF69.tab7 : rtab .any (opsOf Tryz.f47 7) = sF69.T7 := by kernel_rfl
theorem sF69.bits7 : waitsOk sF69.T7.2 sF69.B7 = true := by kernel_rfl
def sF69.T10 : Bool × List (List Nat × List Nat) := (true, [([], []), ([], []), ([], []), ([1, 2], [1, 2]), ([3], [3]), ([0, 4], [0, 4]), ([], []), ([], []), ([6, 7, 5], [6, 7]), ([8], [8]), ([5, 9], [5, 9]), ([0, 1, 2, 3, 4, 5, 6, 7, 8, 9, 10], []), ([11, 10, 8, 0, 1, 2, 3, 4, 5, 6, 7, 8, 9, 10], [10, 11])])
def sF69.B10 : List Nat := [0, 0, 0, 6, 14, 31, 0, 0, 255, 511, 1023, 2047, 4095]
theorem sF69.tab10 : rtab .any (opsOf Tryz.f47 10) = sF69.T10 := by kernel_rfl
theorem sF69.bits10 : waitsOk sF69.T10.2 sF69.B10 = true := by kernel_rfl
theorem sF69.calls (k : Nat) (A0_0 : Option Addr) (c0_0 : Nat) (l0_0 : List (S76)) (r : List (S60)) (w : World) (hr0_0 : Kd.C k76 w A0_0 l0_0.length l0_0) (hc0_0 : l0_0.length ≤ c0_0) (h : sF69.f k l0_0 = some r) :
  Calls Tryz.prog 47 #[.agg #[.slice A0_0 l0_0.length c0_0]] w fun e w' => ∃ v0_ : Value, e = .returned (.agg #[v0_]) ∧ Kd.R k60 60 w' w.heap.size (fun _ => True) v0_ r ∧ Below w.heap.size w w' := by
 have hu36 := Tryz.underlying36
 have hu30 := Tryz.underlying30
 have hu60 := Tryz.underlying60
 have HR0_0 := aM_ hr0_0
 have HC0_0 := aM_ hc0_0
 clear hr0_0 hc0_0
 have HB := aM_ (Below.refl w.heap.size w)
 have H : ((sF71.f k l0_0).bind fun t143 => (sF69.l0 k t143 0 l0_0 (([] : List (S60))))) = some r := h
 clear h
 obtain ⟨y140, hy140⟩ : ∃ y_ : List (S60), y_ = (([] : List (S60))) := ⟨_, rfl⟩
 replace H : ((sF71.f k l0_0).bind fun t143 => (sF69.l0 k t143 0 l0_0 y140)) = some r := by (try rw [hy140]); first | with_reducible exact H | with_reducible exact oS_ H | exact H
 have Ny140 := aM_ hy140
 clear hy140
 replace H := oB_.mp H
 obtain ⟨t143, A20, H⟩ := H
 try dsimp only at H
 have A2 := aM_ A20
 clear A20
 have H' := aM_ H
 clear H
 go_enter Tryz.func47, Tryz.ntmps47
 go_wp2_with (first | (refine bx_ 1 #[.slice A0_0 l0_0.length c0_0] 36 ?_; intro gb138 hg w3 hbox hb; have BK138 := aM_ (hbox); have GW138 := gw_ hg HB; replace HB := b4_ HB hb; clear hb hbox hg) | (refine bx_ 2 #[.slice none 0 0] 30 ?_; intro gb139 hg w4 hbox hb; have BK139 := aM_ (hbox); have GW139 := gw_ hg HB; replace HB := b4_ HB hb; have NB138_139 := nb_ hg BK138; have NB139_138 := ns_ NB138_139; replace BK138 := b5_ BK138 hb; clear hb hbox hg) | ((with_reducible refine gD_ (N := 9) rfl ?_); refine Kd.R_lit k60 _ 60 ?hg (N := 9) ?hd (xs := ([] : List (S60))) (inner := []) (ok := fun _ => True) (okp := fun _ => True) ?hr ?hp (fun _ hk => hk) trivial (Below.refl _ _) (Nat.le_refl _) (by simp) ?_; (case hd => rfl); (case hg => rfl); (case hr => (go_simp; done)); (case hp => exact (Reps.none _ _)); intro v141 w5 ho6 hb hg_ hnew_; clear hg_ hnew_; (rw [← Ny140.out] at ho6); have HO142 := aM_ (k5_ ho6 (bZ_ HB.out)); replace BK138 := b5_ BK138 hb; replace BK139 := b5_ BK139 hb; replace HB := b4_ HB hb; clear hb ho6; obtain ⟨Ao7, co7, eo7⟩ := kS_ HO142.out; subst eo7; have hnb8 := NB138_139.out; have hnc8 := NB139_138.out; have hcz9_0 := c0_ BK138; have hfz9_0 := bF_ BK138.out 0) | (refine gs_ 12 Tryz.func74 #[.agg #[.slice A0_0 l0_0.length c0_0]] ?_; (with_reducible refine (sF71.calls k _ _ l0_0 t143 _ ?side1 HC0_0.out A2.out).mono ?_); (case side1 => repeat (first | exact (k4_ HR0_0.out HB.out) | with_reducible first | apply cA_ | apply cN_ | apply cD_)); rintro e w10 ⟨v144, rfl, ho0, hb⟩; refine ⟨_, rfl, ?_⟩; replace HO142 := k9_ HO142 hb; have HO145 := aM_ (k5_ ho0 (bZ_ HB.out)); replace BK138 := b5_ BK138 hb; replace BK139 := b5_ BK139 hb; replace HB := b4_ HB hb; (try clear hb); (try clear ho0)) | (refine bx_ 3 #[.slice none 0 0] 30 ?_; intro gb146 hg w11 hbox hb; replace HO142 := k9_ HO142 hb; replace HO145 := k9_ HO145 hb; have BK146 := aM_ (hbox); have GW146 := gw_ hg HB; replace HB := b4_ HB hb; have NB138_146 := nb_ hg BK138; have NB146_138 := ns_ NB138_146; replace BK138 := b5_ BK138 hb; have NB139_146 := nb_ hg BK139; have NB146_139 := ns_ NB139_146; replace BK139 := b5_ BK139 hb; clear hb hbox hg; have hnb12 := NB146_138.out; have hnc12 := NB138_146.out; have hnb13 := NB146_139.out; have hnc13 := NB139_146.out; have hcz14_0 := c0_ BK146; have hfz14_0 := bF_ BK146.out 0))
 go_loopg [5] k (fun kq v5 w' => ∃ (x5_1 : Int) (x147000_1 : List (S60)) (u147000 : Value), v5 = .int .i64 x5_1 ∧ Aside0 (sF69.l0 kq t143 x5_1 l0_0 x147000_1 = some r) ∧ Aside0 (kq ≤ k) ∧ Aside0 (Kd.R (Kd.int .i64) 3 w' w.heap.size (fun _ => True) v144 t143) ∧ Aside0 (Kd.R k60 60 w' w.heap.size (fun _ => True) u147000 x147000_1) ∧ Aside0 (w'.heap[gb138]? = some (.cells #[(.slice A0_0 l0_0.length c0_0)] 36 (0, 0))) ∧ Aside0 (w'.heap[gb139]? = some (.cells #[(.slice none 0 0)] 30 (0, 0))) ∧ Aside0 (w'.heap[gb146]? = some (.cells #[u147000] 30 (0, 0))) ∧ Aside0 (Below w.heap.size w w'))
 case atStart => exact ⟨(0), (y140), (.slice Ao7 y140.length co7), (by rfl), H', ⟨Nat.le_refl _⟩, ⟨by exact kM_ (kG_ (kT_ HO145.out BK146.out (by decide))) (fun _ hk => trivial)⟩, ⟨by exact kM_ (kG_ (kT_ HO142.out BK146.out (by decide))) (fun _ hk => trivial)⟩, ⟨by exact br_ NB138_146.out (BK138.out)⟩, ⟨by exact br_ NB139_146.out (BK139.out)⟩, ⟨by refine bP_ (cs := #[.slice none 0 0]) ?_ 0 _ rfl; exact BK146.out⟩, ⟨by repeat with_reducible first | exact HB.out | apply bA_ | apply bN_ | apply bD_ | refine bS_ ?_ (Aside0.out ‹_›)⟩⟩
 clear H'
 try clear p2
 try clear hcz14_0
 try clear hcz9_0
 try clear hfz14_0
 try clear hfz9_0
 obtain ⟨x5_1, x147000_1, u147000, rfl, HA, HK1, HO_4, HO_147000, BK138, BK139, BK146, HB⟩ := hrel
 cases gk with
 | zero => exact absurd HA.out (by simp [sF69.l0])
 | succ k1 =>
  have H := HA.out
  clear HA
  simp only [sF69.l0] at H
  by_cases c15 : x5_1 < (t143.length : Int)
  rotate_left
  ·
   rw [if_neg c15] at H
   have c15b0 := dF_ c15
   clear c15
   obtain rfl := Option.some.inj H
   obtain ⟨Ao89, co89, eo89⟩ := kS_ HO_4.out
   subst eo89
   have hnb90 := NB146_138.out
   have hnc90 := NB138_146.out
   have hnb91 := NB146_139.out
   have hnc91 := NB139_146.out
   have hcz92_0 := c0_ BK146
   have hfz92_0 := bF_ BK146.out 0
   obtain ⟨Ao93, co93, eo93⟩ := kS_ HO_147000.out
   subst eo93
   have hnb94 := NB139_138.out
   have hnc94 := NB138_139.out
   have hcz95_0 := c0_ BK139
   have hfz95_0 := bF_ BK139.out 0
   go_wp2
   refine bodyPost_ret (results_cell_row rfl _ _ gb139 30 #[.slice Ao93 x147000_1.length co93] (0, 0) _ rfl (by refine bP_ (cs := #[.slice none 0 0]) ?_ 0 _ rfl; exact BK139.out) Tryz.underlying30 rfl (by kernel_rfl)) rfl ?_
   exact ⟨_, by rfl, by exact kM_ (kG_ (kT_ HO_147000.out BK139.out (by decide))) (fun _ hk => trivial), by repeat with_reducible first | exact HB.out | apply bA_ | apply bN_ | apply bD_ | refine bS_ ?_ (Aside0.out ‹_›)⟩
  rw [if_pos c15] at H
  have c15b0 := dT_ c15
  clear c15
  by_cases c16 : 0 ≤ x5_1
  rotate_left
  ·
   rw [if_neg c16] at H
   exact absurd H (by simp)
  rw [if_pos c16] at H
  have c16b0 := dT_ c16
  clear c16
  by_cases c17 : 0 ≤ (rd t143 x5_1)
  rotate_left
  ·
   rw [if_neg c17] at H
   exact absurd H (by simp)
  rw [if_pos c17] at H
  have c17b0 := dT_ c17
  clear c17
  by_cases c18 : (rd t143 x5_1) < (l0_0.length : Int)
  rotate_left
  ·
   rw [if_neg c18] at H
   exact absurd H (by simp)
  rw [if_pos c18] at H
  have c18b0 := dT_ c18
  clear c18
  by_cases c19 : x5_1 > 0
  rotate_left
  ·
   rw [if_neg c19] at H
   have c19b0 := dF_ c19
   clear c19
   by_cases c72 : x147000_1.length < 4398046511104
   rotate_left
   ·
    rw [if_neg c72] at H
    exact absurd H (by simp)
   rw [if_pos c72] at H
   have LMc72 := aM_ c72
   clear c72
   obtain ⟨y161, hy161⟩ : ∃ y_ : List (S60), y_ = (x147000_1 ++ [(⟨(⟨#[]⟩ : ByteArray), (-1), (rd_T76 l0_0 (rd t143 x5_1)).f2⟩ : S60)]) := ⟨_, rfl⟩
   replace H : (sF69.l0 k1 t143 (wrap64 (x5_1 + 1)) l0_0 y161) = some r := by (try rw [hy161]); first | with_reducible exact H | with_reducible exact oS_ H | exact H
   have Ny161 := aM_ hy161
   clear hy161
   have H' := aM_ H
   clear H
   obtain ⟨Ao73, co73, eo73⟩ := kS_ HO_4.out
   subst eo73
   try go_wp2
   have n0_ := aM_ (k3_ HO_4.out)
   have n1_ := aM_ (k3_ HO_147000.out)
   have n2_ := aM_ (b1_ BK138.out)
   have n3_ := aM_ (b1_ BK139.out)
   have n4_ := aM_ (b1_ BK146.out)
   have n5_ := aM_ (bD_ HB.out)
   clear HO_4
   clear HO_147000
   clear BK138
   clear BK139
   clear BK146
   clear HB
   have HO_4 := n0_
   have HO_147000 := n1_
   have BK138 := n2_
   have BK139 := n3_
   have BK146 := n4_
   have HB := n5_
   clear n0_ n1_ n2_ n3_ n4_ n5_
   have p147 : 0 ≤ (x5_1 : Int) := oD_ ‹_›
   have q147 : x5_1 < (t143.length : Int) := oD_ ‹_›
   obtain ⟨ad147, e147, hx147_0⟩ := Kd.at_int (kR_ HO_4.out).2.2 x5_1 p147 q147
   cases e147
   replace p147 := eq_true p147
   replace q147 := eq_true q147
   have p148 : 0 ≤ ((rd t143 x5_1) : Int) := oD_ ‹_›
   have q148 : (rd t143 x5_1) < (l0_0.length : Int) := oD_ ‹_›
   obtain ⟨ad148, e148, hx148_0, hx148_1, hx148_2⟩ := at_T76 HR0_0.out (rd t143 x5_1) p148 q148
   have hw148_2 := hx148_2
   have hw148_1 := hx148_1
   have hw148_0 := hx148_0
   cases e148
   replace hx148_0 := cb_ HB hx148_0
   replace hx148_1 := cb_ HB hx148_1
   replace hx148_2 := cb_ HB hx148_2
   replace p148 := eq_true p148
   replace q148 := eq_true q148
   refine start_ (n := 12) (S := fun w' => w'.cell? ⟨gb138, 0, none⟩ = some (.slice (some ad148) l0_0.length c0_0) ∧ w'.cell? (ad147.add (x5_1).toNat) = some (.int .i64 (rd t143 x5_1)) ∧ w'.cell? (ad148.add (((rd t143 x5_1)).toNat * 3)) = some (.int .i64 ((rd_T76 l0_0 (rd t143 x5_1)).f0)) ∧ w'.cell? ⟨(ad148.add (((rd t143 x5_1)).toNat * 3)).block, (ad148.add (((rd t143 x5_1)).toNat * 3)).off + 1, none⟩ = some (.int .i64 ((rd_T76 l0_0 (rd t143 x5_1)).f1)) ∧ w'.cell? ⟨(ad148.add (((rd t143 x5_1)).toNat * 3)).block, (ad148.add (((rd t143 x5_1)).toNat * 3)).off + 2, none⟩ = some (.bool ((rd_T76 l0_0 (rd t143 x5_1)).f2))) (ds := []) #[fy, fy, fy, fy, fy, fy, fy, fy, fy, fy, fy, fy] (by kernel_rfl) rfl rfl ⟨(bC_ BK138.out 0).trans rfl, hx147_0, (cb_ HB hw148_0), (cb_ HB hw148_1), (cb_ HB hw148_2)⟩ (fun hHeld => ?_); refine with_tabW sF69.tab5 sF69.bits5 (fun HT_ HW_ => ?_)
   generalize wr.drew = w74 at HO_4 HO_147000 BK138 BK139 BK146 HB hx147_0 hx148_0 hx148_1 hx148_2 hHeld ⊢
   refine pu_ HT_ 0 19 #[ty, fy, fy, fy, fy, fy, fy, fy, fy, fy, fy, fy] ?_
   refine pu_ HT_ 2 21 #[ty, fy, ty, fy, fy, fy, fy, fy, fy, fy, fy, fy] ?_
   refine pu_ HT_ 3 22 #[ty, fy, ty, ty, fy, fy, fy, fy, fy, fy, fy, fy] ?_
   refine pu_ HT_ 4 23 #[ty, fy, ty, ty, ty, fy, fy, fy, fy, fy, fy, fy] ?_
   refine tk_ HT_ HW_ 1 20 #[ty, ty, ty, ty, ty, fy, fy, fy, fy, fy, fy, fy] hHeld ?_ (hr := by rintro w' ⟨s0, s1, s2, s3, s4⟩; go_simp; with_reducible rfl)
   refine tk_ HT_ HW_ 5 24 #[ty, ty, ty, ty, ty, ty, fy, fy, fy, fy, fy, fy] hHeld ?_ (hr := by rintro w' ⟨s0, s1, s2, s3, s4⟩; go_simp; with_reducible rfl)
   refine pu_ HT_ 6 25 #[ty, ty, ty, ty, ty, ty, ty, fy, fy, fy, fy, fy] ?_
   refine pu_ HT_ 7 26 #[ty, ty, ty, ty, ty, ty, ty, ty, fy, fy, fy, fy] ?_
   refine tk_ HT_ HW_ 8 27 #[ty, ty, ty, ty, ty, ty, ty, ty, ty, fy, fy, fy] hHeld ?_ (hr := by rintro w' ⟨s0, s1, s2, s3, s4⟩; go_simp; with_reducible rfl)
   refine pu_ HT_ 9 28 #[ty, ty, ty, ty, ty, ty, ty, ty, ty, ty, fy, fy] ?_
   refine one_ (i := 10) (N := some 6) #[ty, ty, ty, ty, ty, ty, ty, ty, ty, ty, ty, fy] rfl rfl (one_of HT_.out (by kernel_rfl)) (by decide) (fun K hK => ?_)
   refine box_step ?hg (N := 6) ?hd (cs := #[.string (⟨#[]⟩ : ByteArray), .int .i64 0, .bool false]) (t := 60) ?hr ?_; (case hd => rfl); (case hg => rfl); (case hr => (go_simp; done))
   intro gb149 hg w75 hbox hb
   have HS1_ := (hb.cell (wB_ _ _ (hHeld.2.1))).trans (hHeld.2.1)
   have n0_ := k9_ HO_4 hb
   have n1_ := aM_ (kB_ (Kd.R_elderB HO_147000.out gb149 (Nat.le_of_eq hg.symm)) hb)
   have n2_ := b5_ BK138 hb
   have n3_ := b5_ BK139 hb
   have n4_ := b5_ BK146 hb
   have n5_ := b4_ HB hb
   have n6_ := aM_ (hbox)
   have n7_ := gw_ hg HB
   have n8_ := gw_ hg HB
   have n9_ := nb_ hg BK138
   have n10_ := aM_ ((by rw [hg]; exact Nat.ne_of_gt (bL_ BK138.out) : gb149 ≠ gb138))
   have n11_ := nb_ hg BK139
   have n12_ := aM_ ((by rw [hg]; exact Nat.ne_of_gt (bL_ BK139.out) : gb149 ≠ gb139))
   have n13_ := nb_ hg BK146
   have n14_ := aM_ ((by rw [hg]; exact Nat.ne_of_gt (bL_ BK146.out) : gb149 ≠ gb146))
   clear HO_4
   clear HO_147000
   clear BK138
   clear BK139
   clear BK146
   clear HB
   have HO_4 := n0_
   have HO_147000 := n1_
   have BK138 := n2_
   have BK139 := n3_
   have BK146 := n4_
   have HB := n5_
   have BK149 := n6_
   have GW149 := n7_
   have GW149 := n8_
   have NB138_149 := n9_
   have NB149_138 := n10_
   have NB139_149 := n11_
   have NB149_139 := n12_
   have NB146_149 := n13_
   have NB149_146 := n14_
   clear n0_ n1_ n2_ n3_ n4_ n5_ n6_ n7_ n8_ n9_ n10_ n11_ n12_ n13_ n14_
   clear hb hbox hg
   refine hK.out _ _ ⟨(bC_ BK138.out 0).trans rfl, HS1_, (cb_ HB hw148_0), (cb_ HB hw148_1), (cb_ HB hw148_2)⟩ (fun hHeld => ?_)
   clear hK K
   refine norm_ (by show Act.put _ (some 6) _ = _; simp only [Act.put, sA_, sB_, sC_, i6_, i3_]; rfl) ?_
   refine one_ (i := 11) (N := none) #[ty, ty, ty, ty, ty, ty, ty, ty, ty, ty, ty, ty] rfl rfl (one_of HT_.out (by kernel_rfl)) (by decide) (fun K hK => ?_)
   have hs76 : w75.cell? ⟨gb149, 0, none⟩ = some (.string (⟨#[]⟩ : ByteArray)) := (bC_ BK149.out 0).trans rfl
   have hfs76 := bF_ BK149.out 0
   have hns76_0 := NB138_149.out
   have hns76_1 := NB139_149.out
   have hns76_2 := NB146_149.out
   have hms76_0 := NB149_138.out
   have hms76_1 := NB149_139.out
   have hms76_2 := NB149_146.out
   have hs77 : w75.cell? ⟨gb149, 1, none⟩ = some (.int .i64 0) := (bC_ BK149.out 1).trans rfl
   have hfs77 := bF_ BK149.out 1
   have hns77_0 := NB138_149.out
   have hns77_1 := NB139_149.out
   have hns77_2 := NB146_149.out
   have hms77_0 := NB149_138.out
   have hms77_1 := NB149_139.out
   have hms77_2 := NB149_146.out
   have hs78 : w75.cell? ⟨gb149, 2, none⟩ = some (.bool false) := (bC_ BK149.out 2).trans rfl
   have hfs78 := bF_ BK149.out 2
   have hns78_0 := NB138_149.out
   have hns78_1 := NB139_149.out
   have hns78_2 := NB146_149.out
   have hms78_0 := NB149_138.out
   have hms78_1 := NB149_139.out
   have hms78_2 := NB149_146.out
   refine skip_ (w1 := ?_) (by rfl) rfl ?_ ?_
   rotate_left
   ·
    go_simp
    rfl
   refine hK.out _ _ ⟨((cF_ (p := ⟨gb149, _, none⟩) NB138_149.out _).trans (((cF_ (p := ⟨gb149, _, none⟩) NB138_149.out _).trans (((cF_ (p := ⟨gb149, _, none⟩) NB138_149.out _).trans (hHeld.1)))))), ((cF_ (p := ⟨gb149, _, none⟩) (by (rw [add_block]; exact k7_ (k6_ HO_4.out BK149.out (by decide)))) _).trans (((cF_ (p := ⟨gb149, _, none⟩) (by (rw [add_block]; exact k7_ (k6_ HO_4.out BK149.out (by decide)))) _).trans (((cF_ (p := ⟨gb149, _, none⟩) (by (rw [add_block]; exact k7_ (k6_ HO_4.out BK149.out (by decide)))) _).trans (hHeld.2.1)))))), ((cF_ (p := ⟨gb149, _, none⟩) (by exact Nat.ne_of_lt (Nat.lt_of_lt_of_le (by have := wB_ _ _ hw148_0; exact this) GW149.out)) _).trans (((cF_ (p := ⟨gb149, _, none⟩) (by exact Nat.ne_of_lt (Nat.lt_of_lt_of_le (by have := wB_ _ _ hw148_0; exact this) GW149.out)) _).trans (((cF_ (p := ⟨gb149, _, none⟩) (by exact Nat.ne_of_lt (Nat.lt_of_lt_of_le (by have := wB_ _ _ hw148_0; exact this) GW149.out)) _).trans (hHeld.2.2.1)))))), ((cF_ (p := ⟨gb149, _, none⟩) (by exact Nat.ne_of_lt (Nat.lt_of_lt_of_le (by have := wB_ _ _ hw148_1; exact this) GW149.out)) _).trans (((cF_ (p := ⟨gb149, _, none⟩) (by exact Nat.ne_of_lt (Nat.lt_of_lt_of_le (by have := wB_ _ _ hw148_1; exact this) GW149.out)) _).trans (((cF_ (p := ⟨gb149, _, none⟩) (by exact Nat.ne_of_lt (Nat.lt_of_lt_of_le (by have := wB_ _ _ hw148_1; exact this) GW149.out)) _).trans (hHeld.2.2.2.1)))))), ((cF_ (p := ⟨gb149, _, none⟩) (by exact Nat.ne_of_lt (Nat.lt_of_lt_of_le (by have := wB_ _ _ hw148_2; exact this) GW149.out)) _).trans (((cF_ (p := ⟨gb149, _, none⟩) (by exact Nat.ne_of_lt (Nat.lt_of_lt_of_le (by have := wB_ _ _ hw148_2; exact this) GW149.out)) _).trans (((cF_ (p := ⟨gb149, _, none⟩) (by exact Nat.ne_of_lt (Nat.lt_of_lt_of_le (by have := wB_ _ _ hw148_2; exact this) GW149.out)) _).trans (hHeld.2.2.2.2))))))⟩ (fun hHeld => ?_)
   clear hK K
   refine done_ (done_of HT_.out (by kernel_rfl)) ?_
   have hnb79 := NB146_138.out
   have hnc79 := NB138_146.out
   have hnb80 := NB146_139.out
   have hnc80 := NB139_146.out
   have hnb81 := NB146_149.out
   have hnc81 := NB149_146.out
   have hcz82_0 := c0_ BK146
   have hfz82_0 := bF_ BK146.out 0
   have hnb83 := NB149_138.out
   have hnc83 := NB138_149.out
   have hnb84 := NB149_139.out
   have hnc84 := NB139_149.out
   have hcz85_0 := c0_ BK149
   have hcz85_1 := c1_ BK149
   have hcz85_2 := c2_ BK149
   have hfz85_0 := bF_ BK149.out 0
   have hfz85_1 := bF_ BK149.out 1
   have hfz85_2 := bF_ BK149.out 2
   try go_wp2_with (first | ((with_reducible refine gate_builtin (b := .append) (xs := #[.tmp 76, .tmp 78]) rfl ?_); at_builtin; refine Kd.R_append k60 (w0 := w) w.heap.size rfl (.tmp 76) (.tmp 78) 28 60 (.agg #[(.string ⟨#[]⟩), (.int .i64 0), (.bool false)]) 32 rfl Tryz.underlying28 info60 rfl (by decide) (by omega) u147000 x147000_1 (⟨(⟨#[]⟩ : ByteArray), (-1), (rd_T76 l0_0 (rd t143 x5_1)).f2⟩ : S60) [.string (⟨#[]⟩ : ByteArray), .int .i64 (-1), .bool ((rd_T76 l0_0 (rd t143 x5_1)).f2)] (fun k_ => k_ ≠ gb149) (fun _ => False) rfl (by (go_simp; done)) ?aP (fun _ hk => hk.elim) ?aF ?aO ?aB ?aS ?aL ?_; (case aP => exact k60_mkM _ _ _ (⟨(⟨#[]⟩ : ByteArray), (-1), (rd_T76 l0_0 (rd t143 x5_1)).f2⟩ : S60)); (case aB => exact (by repeat with_reducible first | exact HB.out | apply bA_ | apply bN_ | apply bD_ | refine bS_ ?_ (Aside0.out ‹_›))); (case aF => exact (fun k_ hk => Kd.freshB (g := gb149) (o := .cells #[.string (⟨#[]⟩ : ByteArray), .int .i64 (-1), .bool ((rd_T76 l0_0 (rd t143 x5_1)).f2)] 60 (0, 0)) (by refine bP_ (cs := #[.string (⟨#[]⟩ : ByteArray), .int .i64 (-1), .bool false]) ?_ 2 _ rfl; refine bP_ (cs := #[.string (⟨#[]⟩ : ByteArray), .int .i64 0, .bool false]) ?_ 1 _ rfl; refine bP_ (cs := #[.string (⟨#[]⟩ : ByteArray), .int .i64 0, .bool false]) ?_ 0 _ rfl; exact BK149.out) k_ hk)); (case aO => exact (by exact kM_ (kF_ (p := ⟨gb149, 2, none⟩) (kF_ (p := ⟨gb149, 1, none⟩) (kF_ (p := ⟨gb149, 0, none⟩) (kM_ HO_147000.out (fun k_ hk => (⟨hk, hk.2⟩ : _ ∧ k_ ≠ gb149))) (fun _ hk => hk.2) (.string (⟨#[]⟩ : ByteArray))) (fun _ hk => hk.2) (.int .i64 (-1))) (fun _ hk => hk.2) (.bool ((rd_T76 l0_0 (rd t143 x5_1)).f2))) (fun _ hk => hk.1.2))); (case aS => exact (bZ_ (by repeat with_reducible first | exact HB.out | apply bA_ | apply bN_ | apply bD_ | refine bS_ ?_ (Aside0.out ‹_›)))); (case aL => have := LMc72.out; omega); intro v162 w86 ho hb hg hat; rw [← Ny161.out] at ho; have n0_ := aM_ (Kd.R_over' (by exact (kM_ (kG_ (kG_ (kG_ (kT_ HO_4.out BK149.out (by decide))))) (fun _ h_ => h_.1))) (Kd.R_typed (by exact (kM_ (kF_ (p := ⟨gb149, 2, none⟩) (kF_ (p := ⟨gb149, 1, none⟩) (kF_ (p := ⟨gb149, 0, none⟩) (kM_ HO_147000.out (fun k_ hk => (⟨hk, hk.2⟩ : _ ∧ k_ ≠ gb149))) (fun _ hk => hk.2) (.string (⟨#[]⟩ : ByteArray))) (fun _ hk => hk.2) (.int .i64 (-1))) (fun _ hk => hk.2) (.bool ((rd_T76 l0_0 (rd t143 x5_1)).f2))) (fun _ h_ => h_.1)))) (by decide) hg); have n1_ := aM_ (blk_grown (g := gb138) (o := .cells #[.slice (some ad148) l0_0.length c0_0] 36 (0, 0)) (by exact br_ NB138_149.out (br_ NB138_149.out (br_ NB138_149.out (BK138.out)))) hg (k6_ HO_147000.out BK138.out (by decide))); have n2_ := aM_ (blk_grown (g := gb139) (o := .cells #[.slice none 0 0] 30 (0, 0)) (by exact br_ NB139_149.out (br_ NB139_149.out (br_ NB139_149.out (BK139.out)))) hg (k6_ HO_147000.out BK139.out (by decide))); have n3_ := aM_ (blk_grown (g := gb146) (o := .cells #[u147000] 30 (0, 0)) (by exact br_ NB146_149.out (br_ NB146_149.out (br_ NB146_149.out (BK146.out)))) hg (k6_ HO_147000.out BK146.out (by decide))); have n4_ := aM_ (blk_grown (g := gb149) (o := .cells #[.string (⟨#[]⟩ : ByteArray), .int .i64 (-1), .bool ((rd_T76 l0_0 (rd t143 x5_1)).f2)] 60 (0, 0)) (by refine bP_ (cs := #[.string (⟨#[]⟩ : ByteArray), .int .i64 (-1), .bool false]) ?_ 2 _ rfl; refine bP_ (cs := #[.string (⟨#[]⟩ : ByteArray), .int .i64 0, .bool false]) ?_ 1 _ rfl; refine bP_ (cs := #[.string (⟨#[]⟩ : ByteArray), .int .i64 0, .bool false]) ?_ 0 _ rfl; exact BK149.out) hg (Kd.R_away HO_147000.out (fun _ hk => hk.2))); have n5_ := aM_ (hb); have n6_ := aM_ (ho); clear HO_4; clear BK138; clear BK139; clear BK146; clear BK149; clear HB; clear HO_147000; have HO_4 := n0_; have BK138 := n1_; have BK139 := n2_; have BK146 := n3_; have BK149 := n4_; have HB := n5_; have HO163 := n6_; clear n0_ n1_ n2_ n3_ n4_ n5_ n6_; clear ho hb hg hat; obtain ⟨Ao87, co87, eo87⟩ := kS_ HO163.out; subst eo87; have hcz88_0 := c0_ BK146; have hfz88_0 := bF_ BK146.out 0))
   go_roundg k1
   case measure => have := HK1.out; omega
   case rel => exact ⟨(wrap64 (x5_1 + 1)), (y161), (.slice Ao87 y161.length co87), (by rfl), H', ⟨by have := HK1.out; omega⟩, ⟨by exact kM_ (kG_ (kT_ HO_4.out BK146.out (by decide))) (fun _ hk => trivial)⟩, ⟨by exact kM_ (kG_ (kT_ HO163.out BK146.out (by decide))) (fun _ hk => trivial)⟩, ⟨by exact br_ NB138_146.out (BK138.out)⟩, ⟨by exact br_ NB139_146.out (BK139.out)⟩, ⟨by refine bP_ (cs := #[u147000]) ?_ 0 _ rfl; exact BK146.out⟩, ⟨by repeat with_reducible first | exact HB.out | apply bA_ | apply bN_ | apply bD_ | refine bS_ ?_ (Aside0.out ‹_›)⟩⟩
  rw [if_pos c19] at H
  have c19b0 := dT_ c19
  clear c19
  have H' := aM_ H
  clear H
  obtain ⟨Ao20, co20, eo20⟩ := kS_ HO_4.out
  subst eo20
  try go_wp2
  have n0_ := aM_ (k3_ HO_4.out)
  have n1_ := aM_ (k3_ HO_147000.out)
  have n2_ := aM_ (b1_ BK138.out)
  have n3_ := aM_ (b1_ BK139.out)
  have n4_ := aM_ (b1_ BK146.out)
  have n5_ := aM_ (bD_ HB.out)
  clear HO_4
  clear HO_147000
  clear BK138
  clear BK139
  clear BK146
  clear HB
  have HO_4 := n0_
  have HO_147000 := n1_
  have BK138 := n2_
  have BK139 := n3_
  have BK146 := n4_
  have HB := n5_
  clear n0_ n1_ n2_ n3_ n4_ n5_
  have p147 : 0 ≤ (x5_1 : Int) := oD_ ‹_›
  have q147 : x5_1 < (t143.length : Int) := oD_ ‹_›
  obtain ⟨ad147, e147, hx147_0⟩ := Kd.at_int (kR_ HO_4.out).2.2 x5_1 p147 q147
  cases e147
  replace p147 := eq_true p147
  replace q147 := eq_true q147
  have p148 : 0 ≤ ((rd t143 x5_1) : Int) := oD_ ‹_›
  have q148 : (rd t143 x5_1) < (l0_0.length : Int) := oD_ ‹_›
  obtain ⟨ad148, e148, hx148_0, hx148_1, hx148_2⟩ := at_T76 HR0_0.out (rd t143 x5_1) p148 q148
  have hw148_2 := hx148_2
  have hw148_1 := hx148_1
  have hw148_0 := hx148_0
  cases e148
  replace hx148_0 := cb_ HB hx148_0
  replace hx148_1 := cb_ HB hx148_1
  replace hx148_2 := cb_ HB hx148_2
  replace p148 := eq_true p148
  replace q148 := eq_true q148
  refine start_ (n := 12) (S := fun w' => w'.cell? ⟨gb138, 0, none⟩ = some (.slice (some ad148) l0_0.length c0_0) ∧ w'.cell? (ad147.add (x5_1).toNat) = some (.int .i64 (rd t143 x5_1)) ∧ w'.cell? (ad148.add (((rd t143 x5_1)).toNat * 3)) = some (.int .i64 ((rd_T76 l0_0 (rd t143 x5_1)).f0)) ∧ w'.cell? ⟨(ad148.add (((rd t143 x5_1)).toNat * 3)).block, (ad148.add (((rd t143 x5_1)).toNat * 3)).off + 1, none⟩ = some (.int .i64 ((rd_T76 l0_0 (rd t143 x5_1)).f1)) ∧ w'.cell? ⟨(ad148.add (((rd t143 x5_1)).toNat * 3)).block, (ad148.add (((rd t143 x5_1)).toNat * 3)).off + 2, none⟩ = some (.bool ((rd_T76 l0_0 (rd t143 x5_1)).f2))) (ds := []) #[fy, fy, fy, fy, fy, fy, fy, fy, fy, fy, fy, fy] (by kernel_rfl) rfl rfl ⟨(bC_ BK138.out 0).trans rfl, hx147_0, (cb_ HB hw148_0), (cb_ HB hw148_1), (cb_ HB hw148_2)⟩ (fun hHeld => ?_); refine with_tabW sF69.tab5 sF69.bits5 (fun HT_ HW_ => ?_)
  generalize wr.drew = w21 at HO_4 HO_147000 BK138 BK139 BK146 HB hx147_0 hx148_0 hx148_1 hx148_2 hHeld ⊢
  refine pu_ HT_ 0 19 #[ty, fy, fy, fy, fy, fy, fy, fy, fy, fy, fy, fy] ?_
  refine pu_ HT_ 2 21 #[ty, fy, ty, fy, fy, fy, fy, fy, fy, fy, fy, fy] ?_
  refine pu_ HT_ 3 22 #[ty, fy, ty, ty, fy, fy, fy, fy, fy, fy, fy, fy] ?_
  refine pu_ HT_ 4 23 #[ty, fy, ty, ty, ty, fy, fy, fy, fy, fy, fy, fy] ?_
  refine tk_ HT_ HW_ 1 20 #[ty, ty, ty, ty, ty, fy, fy, fy, fy, fy, fy, fy] hHeld ?_ (hr := by rintro w' ⟨s0, s1, s2, s3, s4⟩; go_simp; with_reducible rfl)
  refine tk_ HT_ HW_ 5 24 #[ty, ty, ty, ty, ty, ty, fy, fy, fy, fy, fy, fy] hHeld ?_ (hr := by rintro w' ⟨s0, s1, s2, s3, s4⟩; go_simp; with_reducible rfl)
  refine pu_ HT_ 6 25 #[ty, ty, ty, ty, ty, ty, ty, fy, fy, fy, fy, fy] ?_
  refine pu_ HT_ 7 26 #[ty, ty, ty, ty, ty, ty, ty, ty, fy, fy, fy, fy] ?_
  refine tk_ HT_ HW_ 8 27 #[ty, ty, ty, ty, ty, ty, ty, ty, ty, fy, fy, fy] hHeld ?_ (hr := by rintro w' ⟨s0, s1, s2, s3, s4⟩; go_simp; with_reducible rfl)
  refine pu_ HT_ 9 28 #[ty, ty, ty, ty, ty, ty, ty, ty, ty, ty, fy, fy] ?_
  refine one_ (i := 10) (N := some 6) #[ty, ty, ty, ty, ty, ty, ty, ty, ty, ty, ty, fy] rfl rfl (one_of HT_.out (by kernel_rfl)) (by decide) (fun K hK => ?_)
  refine box_step ?hg (N := 6) ?hd (cs := #[.string (⟨#[]⟩ : ByteArray), .int .i64 0, .bool false]) (t := 60) ?hr ?_; (case hd => rfl); (case hg => rfl); (case hr => (go_simp; done))
  intro gb149 hg w22 hbox hb
  have HS1_ := (hb.cell (wB_ _ _ (hHeld.2.1))).trans (hHeld.2.1)
  have n0_ := k9_ HO_4 hb
  have n1_ := aM_ (kB_ (Kd.R_elderB HO_147000.out gb149 (Nat.le_of_eq hg.symm)) hb)
  have n2_ := b5_ BK138 hb
  have n3_ := b5_ BK139 hb
  have n4_ := b5_ BK146 hb
  have n5_ := b4_ HB hb
  have n6_ := aM_ (hbox)
  have n7_ := gw_ hg HB
  have n8_ := gw_ hg HB
  have n9_ := nb_ hg BK138
  have n10_ := aM_ ((by rw [hg]; exact Nat.ne_of_gt (bL_ BK138.out) : gb149 ≠ gb138))
  have n11_ := nb_ hg BK139
  have n12_ := aM_ ((by rw [hg]; exact Nat.ne_of_gt (bL_ BK139.out) : gb149 ≠ gb139))
  have n13_ := nb_ hg BK146
  have n14_ := aM_ ((by rw [hg]; exact Nat.ne_of_gt (bL_ BK146.out) : gb149 ≠ gb146))
  clear HO_4
  clear HO_147000
  clear BK138
  clear BK139
  clear BK146
  clear HB
  have HO_4 := n0_
  have HO_147000 := n1_
  have BK138 := n2_
  have BK139 := n3_
  have BK146 := n4_
  have HB := n5_
  have BK149 := n6_
  have GW149 := n7_
  have GW149 := n8_
  have NB138_149 := n9_
  have NB149_138 := n10_
  have NB139_149 := n11_
  have NB149_139 := n12_
  have NB146_149 := n13_
  have NB149_146 := n14_
  clear n0_ n1_ n2_ n3_ n4_ n5_ n6_ n7_ n8_ n9_ n10_ n11_ n12_ n13_ n14_
  clear hb hbox hg
  refine hK.out _ _ ⟨(bC_ BK138.out 0).trans rfl, HS1_, (cb_ HB hw148_0), (cb_ HB hw148_1), (cb_ HB hw148_2)⟩ (fun hHeld => ?_)
  clear hK K
  refine norm_ (by show Act.put _ (some 6) _ = _; simp only [Act.put, sA_, sB_, sC_, i6_, i3_]; rfl) ?_
  refine one_ (i := 11) (N := none) #[ty, ty, ty, ty, ty, ty, ty, ty, ty, ty, ty, ty] rfl rfl (one_of HT_.out (by kernel_rfl)) (by decide) (fun K hK => ?_)
  have hs23 : w22.cell? ⟨gb149, 0, none⟩ = some (.string (⟨#[]⟩ : ByteArray)) := (bC_ BK149.out 0).trans rfl
  have hfs23 := bF_ BK149.out 0
  have hns23_0 := NB138_149.out
  have hns23_1 := NB139_149.out
  have hns23_2 := NB146_149.out
  have hms23_0 := NB149_138.out
  have hms23_1 := NB149_139.out
  have hms23_2 := NB149_146.out
  have hs24 : w22.cell? ⟨gb149, 1, none⟩ = some (.int .i64 0) := (bC_ BK149.out 1).trans rfl
  have hfs24 := bF_ BK149.out 1
  have hns24_0 := NB138_149.out
  have hns24_1 := NB139_149.out
  have hns24_2 := NB146_149.out
  have hms24_0 := NB149_138.out
  have hms24_1 := NB149_139.out
  have hms24_2 := NB149_146.out
  have hs25 : w22.cell? ⟨gb149, 2, none⟩ = some (.bool false) := (bC_ BK149.out 2).trans rfl
  have hfs25 := bF_ BK149.out 2
  have hns25_0 := NB138_149.out
  have hns25_1 := NB139_149.out
  have hns25_2 := NB146_149.out
  have hms25_0 := NB149_138.out
  have hms25_1 := NB149_139.out
  have hms25_2 := NB149_146.out
  refine skip_ (w1 := ?_) (by rfl) rfl ?_ ?_
  rotate_left
  ·
   go_simp
   rfl
  refine hK.out _ _ ⟨((cF_ (p := ⟨gb149, _, none⟩) NB138_149.out _).trans (((cF_ (p := ⟨gb149, _, none⟩) NB138_149.out _).trans (((cF_ (p := ⟨gb149, _, none⟩) NB138_149.out _).trans (hHeld.1)))))), ((cF_ (p := ⟨gb149, _, none⟩) (by (rw [add_block]; exact k7_ (k6_ HO_4.out BK149.out (by decide)))) _).trans (((cF_ (p := ⟨gb149, _, none⟩) (by (rw [add_block]; exact k7_ (k6_ HO_4.out BK149.out (by decide)))) _).trans (((cF_ (p := ⟨gb149, _, none⟩) (by (rw [add_block]; exact k7_ (k6_ HO_4.out BK149.out (by decide)))) _).trans (hHeld.2.1)))))), ((cF_ (p := ⟨gb149, _, none⟩) (by exact Nat.ne_of_lt (Nat.lt_of_lt_of_le (by have := wB_ _ _ hw148_0; exact this) GW149.out)) _).trans (((cF_ (p := ⟨gb149, _, none⟩) (by exact Nat.ne_of_lt (Nat.lt_of_lt_of_le (by have := wB_ _ _ hw148_0; exact this) GW149.out)) _).trans (((cF_ (p := ⟨gb149, _, none⟩) (by exact Nat.ne_of_lt (Nat.lt_of_lt_of_le (by have := wB_ _ _ hw148_0; exact this) GW149.out)) _).trans (hHeld.2.2.1)))))), ((cF_ (p := ⟨gb149, _, none⟩) (by exact Nat.ne_of_lt (Nat.lt_of_lt_of_le (by have := wB_ _ _ hw148_1; exact this) GW149.out)) _).trans (((cF_ (p := ⟨gb149, _, none⟩) (by exact Nat.ne_of_lt (Nat.lt_of_lt_of_le (by have := wB_ _ _ hw148_1; exact this) GW149.out)) _).trans (((cF_ (p := ⟨gb149, _, none⟩) (by exact Nat.ne_of_lt (Nat.lt_of_lt_of_le (by have := wB_ _ _ hw148_1; exact this) GW149.out)) _).trans (hHeld.2.2.2.1)))))), ((cF_ (p := ⟨gb149, _, none⟩) (by exact Nat.ne_of_lt (Nat.lt_of_lt_of_le (by have := wB_ _ _ hw148_2; exact this) GW149.out)) _).trans (((cF_ (p := ⟨gb149, _, none⟩) (by exact Nat.ne_of_lt (Nat.lt_of_lt_of_le (by have := wB_ _ _ hw148_2; exact this) GW149.out)) _).trans (((cF_ (p := ⟨gb149, _, none⟩) (by exact Nat.ne_of_lt (Nat.lt_of_lt_of_le (by have := wB_ _ _ hw148_2; exact this) GW149.out)) _).trans (hHeld.2.2.2.2))))))⟩ (fun hHeld => ?_)
  clear hK K
  refine done_ (done_of HT_.out (by kernel_rfl)) ?_
  try go_wp2
  generalize hW_ : (((w22.setCell ⟨gb149, 0, none⟩ (.string (⟨#[]⟩ : ByteArray))).setCell ⟨gb149, 1, none⟩ (.int .i64 (-1))).setCell ⟨gb149, 2, none⟩ (.bool ((rd_T76 l0_0 (rd t143 x5_1)).f2))) = w26
  have n0_ : Aside0 (Kd.R (Kd.int .i64) 3 w26 w.heap.size (fun _ => True) (.slice (some ad147) t143.length co20) t143) := ⟨by subst hW_; exact kM_ (kG_ (kG_ (kG_ (kT_ HO_4.out BK149.out (by decide))))) (fun _ hk => trivial)⟩
  have n1_ : Aside0 (Kd.R k60 60 w26 w.heap.size (fun k_ => k_ ≠ gb149) u147000 x147000_1) := ⟨by subst hW_; exact kM_ (kF_ (p := ⟨gb149, 2, none⟩) (kF_ (p := ⟨gb149, 1, none⟩) (kF_ (p := ⟨gb149, 0, none⟩) (kM_ HO_147000.out (fun k_ hk => (⟨hk, hk.2⟩ : _ ∧ k_ ≠ gb149))) (fun _ hk => hk.2) (.string (⟨#[]⟩ : ByteArray))) (fun _ hk => hk.2) (.int .i64 (-1))) (fun _ hk => hk.2) (.bool ((rd_T76 l0_0 (rd t143 x5_1)).f2))) (fun _ hk => hk.1.2)⟩
  have n2_ : Aside0 (w26.heap[gb138]? = some (.cells #[.slice (some ad148) l0_0.length c0_0] 36 (0, 0))) := ⟨by subst hW_; exact br_ NB138_149.out (br_ NB138_149.out (br_ NB138_149.out (BK138.out)))⟩
  have n3_ : Aside0 (w26.heap[gb139]? = some (.cells #[.slice none 0 0] 30 (0, 0))) := ⟨by subst hW_; exact br_ NB139_149.out (br_ NB139_149.out (br_ NB139_149.out (BK139.out)))⟩
  have n4_ : Aside0 (w26.heap[gb146]? = some (.cells #[u147000] 30 (0, 0))) := ⟨by subst hW_; exact br_ NB146_149.out (br_ NB146_149.out (br_ NB146_149.out (BK146.out)))⟩
  have n5_ : Aside0 (w26.heap[gb149]? = some (.cells #[.string (⟨#[]⟩ : ByteArray), .int .i64 (-1), .bool ((rd_T76 l0_0 (rd t143 x5_1)).f2)] 60 (0, 0))) := ⟨by subst hW_; refine bP_ (cs := #[.string (⟨#[]⟩ : ByteArray), .int .i64 (-1), .bool false]) ?_ 2 _ rfl; refine bP_ (cs := #[.string (⟨#[]⟩ : ByteArray), .int .i64 0, .bool false]) ?_ 1 _ rfl; refine bP_ (cs := #[.string (⟨#[]⟩ : ByteArray), .int .i64 0, .bool false]) ?_ 0 _ rfl; exact BK149.out⟩
  have n6_ : Aside0 (Below w.heap.size w w26) := ⟨by subst hW_; repeat with_reducible first | exact HB.out | apply bA_ | apply bN_ | apply bD_ | refine bS_ ?_ (Aside0.out ‹_›)⟩
  (try clear HO_4)
  (try clear HO_147000)
  (try clear BK138)
  (try clear BK139)
  (try clear BK146)
  (try clear BK149)
  (try clear HB)
  clear hW_
  have HO_4 := n0_
  have HO_147000 := n1_
  have BK138 := n2_
  have BK139 := n3_
  have BK146 := n4_
  have BK149 := n5_
  have HB := n6_
  clear n0_ n1_ n2_ n3_ n4_ n5_ n6_
  have n0_ := aM_ (k3_ HO_4.out)
  have n1_ := aM_ (k3_ HO_147000.out)
  have n2_ := aM_ (b1_ BK138.out)
  have n3_ := aM_ (b1_ BK139.out)
  have n4_ := aM_ (b1_ BK146.out)
  have n5_ := aM_ (b1_ BK149.out)
  have n6_ := aM_ (bD_ HB.out)
  clear HO_4
  clear HO_147000
  clear BK138
  clear BK139
  clear BK146
  clear BK149
  clear HB
  have HO_4 := n0_
  have HO_147000 := n1_
  have BK138 := n2_
  have BK139 := n3_
  have BK146 := n4_
  have BK149 := n5_
  have HB := n6_
  clear n0_ n1_ n2_ n3_ n4_ n5_ n6_
  have p150 : 0 ≤ (x5_1 : Int) := oD_ ‹_›
  have q150 : x5_1 < (t143.length : Int) := oD_ ‹_›
  obtain ⟨ad150, e150, hx150_0⟩ := Kd.at_int (kR_ HO_4.out).2.2 x5_1 p150 q150
  obtain rfl : ad147 = ad150 := (by injection e150)
  replace p150 := eq_true p150
  replace q150 := eq_true q150
  have p151 : 0 ≤ ((rd t143 x5_1) : Int) := oD_ ‹_›
  have q151 : (rd t143 x5_1) < (l0_0.length : Int) := oD_ ‹_›
  obtain ⟨ad151, e151, hx151_0, hx151_1, hx151_2⟩ := at_T76 HR0_0.out (rd t143 x5_1) p151 q151
  have hw151_2 := hx151_2
  have hw151_1 := hx151_1
  have hw151_0 := hx151_0
  obtain rfl : ad148 = ad151 := (by injection e151)
  replace hx151_0 := cb_ HB hx151_0
  replace hx151_1 := cb_ HB hx151_1
  replace hx151_2 := cb_ HB hx151_2
  replace p151 := eq_true p151
  replace q151 := eq_true q151
  refine start_ (n := 10) (S := fun w' => w'.cell? ⟨gb138, 0, none⟩ = some (.slice (some ad148) l0_0.length c0_0) ∧ w'.cell? (ad147.add (x5_1).toNat) = some (.int .i64 (rd t143 x5_1)) ∧ w'.cell? (ad148.add (((rd t143 x5_1)).toNat * 3)) = some (.int .i64 ((rd_T76 l0_0 (rd t143 x5_1)).f0)) ∧ w'.cell? ⟨(ad148.add (((rd t143 x5_1)).toNat * 3)).block, (ad148.add (((rd t143 x5_1)).toNat * 3)).off + 1, none⟩ = some (.int .i64 ((rd_T76 l0_0 (rd t143 x5_1)).f1)) ∧ w'.cell? ⟨(ad148.add (((rd t143 x5_1)).toNat * 3)).block, (ad148.add (((rd t143 x5_1)).toNat * 3)).off + 2, none⟩ = some (.bool ((rd_T76 l0_0 (rd t143 x5_1)).f2))) (ds := []) #[fy, fy, fy, fy, fy, fy, fy, fy, fy, fy] (by kernel_rfl) rfl rfl ⟨(bC_ BK138.out 0).trans rfl, hx150_0, (cb_ HB hw151_0), (cb_ HB hw151_1), (cb_ HB hw151_2)⟩ (fun hHeld => ?_); refine with_tabW sF69.tab7 sF69.bits7 (fun HT_ HW_ => ?_)
  generalize w26.drew = w27 at HO_4 HO_147000 BK138 BK139 BK146 BK149 HB hx150_0 hx151_0 hx151_1 hx151_2 hHeld ⊢
  refine pu_ HT_ 0 31 #[ty, fy, fy, fy, fy, fy, fy, fy, fy, fy] ?_
  refine pu_ HT_ 2 33 #[ty, fy, ty, fy, fy, fy, fy, fy, fy, fy] ?_
  refine pu_ HT_ 3 34 #[ty, fy, ty, ty, fy, fy, fy, fy, fy, fy] ?_
  refine pu_ HT_ 4 35 #[ty, fy, ty, ty, ty, fy, fy, fy, fy, fy] ?_
  refine tk_ HT_ HW_ 1 32 #[ty, ty, ty, ty, ty, fy, fy, fy, fy, fy] hHeld ?_ (hr := by rintro w' ⟨s0, s1, s2, s3, s4⟩; go_simp; with_reducible rfl)
  refine tk_ HT_ HW_ 5 36 #[ty, ty, ty, ty, ty, ty, fy, fy, fy, fy] hHeld ?_ (hr := by rintro w' ⟨s0, s1, s2, s3, s4⟩; go_simp; with_reducible rfl)
  refine pu_ HT_ 6 37 #[ty, ty, ty, ty, ty, ty, ty, fy, fy, fy] ?_
  refine pu_ HT_ 7 38 #[ty, ty, ty, ty, ty, ty, ty, ty, fy, fy] ?_
  refine tk_ HT_ HW_ 8 39 #[ty, ty, ty, ty, ty, ty, ty, ty, ty, fy] hHeld ?_ (hr := by rintro w' ⟨s0, s1, s2, s3, s4⟩; go_simp; with_reducible rfl)
  refine pu_ HT_ 9 7 #[ty, ty, ty, ty, ty, ty, ty, ty, ty, ty] ?_
  refine done_ (done_of HT_.out (by kernel_rfl)) ?_
  try go_wp2
  go_loopg [7] k1 (fun kq v7 w' => ∃ (x7_2 : Int), v7 = .int .i64 x7_2 ∧ Aside0 (sF69.l1 kq t143 x5_1 x7_2 l0_0 x147000_1 (⟨#[]⟩ : ByteArray) (-1) ((rd_T76 l0_0 (rd t143 x5_1)).f2) = some r) ∧ Aside0 (kq ≤ k1) ∧ Aside0 (Kd.R (Kd.int .i64) 3 w' w.heap.size (fun _ => True) (.slice (some ad147) t143.length co20) t143) ∧ Aside0 (Kd.R k60 60 w' w.heap.size (fun k_ => k_ ≠ gb149) u147000 x147000_1) ∧ Aside0 (w'.heap[gb138]? = some (.cells #[(.slice (some ad148) l0_0.length c0_0)] 36 (0, 0))) ∧ Aside0 (w'.heap[gb139]? = some (.cells #[(.slice none 0 0)] 30 (0, 0))) ∧ Aside0 (w'.heap[gb146]? = some (.cells #[u147000] 30 (0, 0))) ∧ Aside0 (w'.heap[gb149]? = some (.cells #[.string (⟨#[]⟩ : ByteArray), .int .i64 (-1), .bool ((rd_T76 l0_0 (rd t143 x5_1)).f2)] 60 (0, 0))) ∧ Aside0 (Below w.heap.size w w'))
  case atStart => exact ⟨((rd_T76 l0_0 (rd t143 x5_1)).f1), (by rfl), H', ⟨Nat.le_refl _⟩, ⟨HO_4.out⟩, ⟨HO_147000.out⟩, ⟨BK138.out⟩, ⟨BK139.out⟩, ⟨BK146.out⟩, ⟨BK149.out⟩, ⟨HB.out⟩⟩
  clear H'
  try clear p1
  try clear q1
  try clear hx1
  try clear p2
  try clear p14
  try clear q14
  try clear hx14
  try clear c15b0
  try clear p15
  try clear q15
  try clear hx15
  try clear c16b0
  try clear c17b0
  try clear c18b0
  try clear c19b0
  try clear hcz14_0
  try clear hcz9_0
  try clear hfz14_0
  try clear hfz9_0
  try clear hx147_0
  try clear hx148_0
  try clear hx148_1
  try clear hx148_2
  try clear hx150_0
  try clear hx151_0
  try clear hx151_1
  try clear hx151_2
  try clear p147
  try clear p148
  try clear p150
  try clear p151
  try clear p2
  try clear q147
  try clear q148
  try clear q150
  try clear q151
  obtain ⟨x7_2, rfl, HA, HK2, HO_4, HO_147000, BK138, BK139, BK146, BK149, HB⟩ := hrel
  cases gk with
  | zero => exact absurd HA.out (by simp [sF69.l1])
  | succ k2 =>
   have H := HA.out
   clear HA
   simp only [sF69.l1] at H
   replace H := oB_.mp H
   obtain ⟨t152, A280, H⟩ := H
   try dsimp only at H
   have A28 := aM_ A280
   clear A280
   by_cases c29 : t152 = true
   rotate_left
   ·
    replace c29 := Bool.eq_false_iff.mpr c29
    subst c29
    replace H : (if 0 ≤ x7_2 then (if x7_2 < (l0_0.length : Int) then (sF69.l1 k2 t143 x5_1 ((rd_T76 l0_0 x7_2).f1) l0_0 x147000_1 (⟨#[]⟩ : ByteArray) (-1) ((rd_T76 l0_0 (rd t143 x5_1)).f2)) else (none)) else (none)) = some r := by rw [if_neg (show ¬ (false = true) by decide)] at H; exact H
    by_cases c64 : 0 ≤ x7_2
    rotate_left
    ·
     rw [if_neg c64] at H
     exact absurd H (by simp)
    rw [if_pos c64] at H
    have c64b0 := dT_ c64
    clear c64
    by_cases c65 : x7_2 < (l0_0.length : Int)
    ·
     rw [if_pos c65] at H
     have c65b0 := dT_ c65
     clear c65
     have H' := aM_ H
     clear H
     have hnb66 := NB138_139.out
     have hnc66 := NB139_138.out
     have hnb67 := NB138_146.out
     have hnc67 := NB146_138.out
     have hnb68 := NB138_149.out
     have hnc68 := NB149_138.out
     have hcz69_0 := c0_ BK138
     have hfz69_0 := bF_ BK138.out 0
     go_wp2_with (first | (refine gs_ 42 Tryz.func75 #[.agg #[.slice (some ad148) l0_0.length c0_0], .int .i64 x7_2] ?_; (with_reducible refine (sF72.calls k2 _ _ l0_0 x7_2 false _ ?side1 HC0_0.out A28.out).mono ?_); (case side1 => repeat (first | exact (k4_ HR0_0.out HB.out) | with_reducible first | apply cA_ | apply cN_ | apply cD_)); rintro e w70 ⟨rfl, hb⟩; refine ⟨_, rfl, ?_⟩; replace HO_4 := k9_ HO_4 hb; replace HO_147000 := k9_ HO_147000 hb; replace BK138 := b5_ BK138 hb; replace BK139 := b5_ BK139 hb; replace BK146 := b5_ BK146 hb; replace BK149 := aM_ (bB_ (g := gb149) (o := .cells #[.string (⟨#[]⟩ : ByteArray), .int .i64 (-1), .bool ((rd_T76 l0_0 (rd t143 x5_1)).f2)] 60 (0, 0)) BK149.out hb); replace HB := b4_ HB hb; (try clear hb); have hcz71_0 := c0_ BK138; have hfz71_0 := bF_ BK138.out 0; have p153 : 0 ≤ (x7_2 : Int) := oD_ ‹_›; have q153 : x7_2 < (l0_0.length : Int) := oD_ ‹_›; obtain ⟨ad153, e153, hx153_0, hx153_1, hx153_2⟩ := at_T76 HR0_0.out x7_2 p153 q153; obtain rfl : ad148 = ad153 := (by injection e153); replace hx153_0 := cb_ HB hx153_0; replace hx153_1 := cb_ HB hx153_1; replace hx153_2 := cb_ HB hx153_2; replace p153 := eq_true p153; replace q153 := eq_true q153))
     go_roundg k2
     case measure => have := HK1.out; have := HK2.out; omega
     case rel => exact ⟨((rd_T76 l0_0 x7_2).f1), (by rfl), H', ⟨by have := HK1.out; have := HK2.out; omega⟩, ⟨HO_4.out⟩, ⟨HO_147000.out⟩, ⟨BK138.out⟩, ⟨BK139.out⟩, ⟨BK146.out⟩, ⟨BK149.out⟩, ⟨HB.out⟩⟩
    rw [if_neg c65] at H
    exact absurd H (by simp)
   subst c29
   rw [if_pos rfl] at H
   by_cases c30 : 0 ≤ x5_1
   rotate_left
   ·
    rw [if_neg c30] at H
    exact absurd H (by simp)
   rw [if_pos c30] at H
   have c30b0 := dT_ c30
   clear c30
   by_cases c31 : x5_1 < (t143.length : Int)
   rotate_left
   ·
    rw [if_neg c31] at H
    exact absurd H (by simp)
   rw [if_pos c31] at H
   have c31b0 := dT_ c31
   clear c31
   replace H := oB_.mp H
   obtain ⟨t155, A320, H⟩ := H
   try dsimp only at H
   have A32 := aM_ A320
   clear A320
   replace H := oB_.mp H
   obtain ⟨t156, A330, H⟩ := H
   try dsimp only at H
   have A33 := aM_ A330
   clear A330
   by_cases c34 : 0 ≤ (t156.size : Int)
   rotate_left
   ·
    rw [if_neg c34] at H
    exact absurd H (by simp)
   rw [if_pos c34] at H
   have c34b0 := eq_true c34
   have c34b1 := dT_ c34
   clear c34
   by_cases c35 : (t156.size : Int) ≤ (t155.size : Int)
   rotate_left
   ·
    rw [if_neg c35] at H
    exact absurd H (by simp)
   rw [if_pos c35] at H
   have c35b0 := eq_true c35
   have c35b1 := dT_ c35
   clear c35
   have H' := aM_ H
   clear H
   have hnb36 := NB138_139.out
   have hnc36 := NB139_138.out
   have hnb37 := NB138_146.out
   have hnc37 := NB146_138.out
   have hnb38 := NB138_149.out
   have hnc38 := NB149_138.out
   have hcz39_0 := c0_ BK138
   have hfz39_0 := bF_ BK138.out 0
   try go_wp2_with (first | (refine gs_ 42 Tryz.func75 #[.agg #[.slice (some ad148) l0_0.length c0_0], .int .i64 x7_2] ?_; (with_reducible refine (sF72.calls k2 _ _ l0_0 x7_2 true _ ?side1 HC0_0.out A28.out).mono ?_); (case side1 => repeat (first | exact (k4_ HR0_0.out HB.out) | with_reducible first | apply cA_ | apply cN_ | apply cD_)); rintro e w40 ⟨rfl, hb⟩; refine ⟨_, rfl, ?_⟩; replace HO_4 := k9_ HO_4 hb; replace HO_147000 := k9_ HO_147000 hb; replace BK138 := b5_ BK138 hb; replace BK139 := b5_ BK139 hb; replace BK146 := b5_ BK146 hb; replace BK149 := aM_ (bB_ (g := gb149) (o := .cells #[.string (⟨#[]⟩ : ByteArray), .int .i64 (-1), .bool ((rd_T76 l0_0 (rd t143 x5_1)).f2)] 60 (0, 0)) BK149.out hb); replace HB := b4_ HB hb; (try clear hb)))
   have n0_ := aM_ (k3_ HO_4.out)
   have n1_ := aM_ (k3_ HO_147000.out)
   have n2_ := aM_ (b1_ BK138.out)
   have n3_ := aM_ (b1_ BK139.out)
   have n4_ := aM_ (b1_ BK146.out)
   have n5_ := aM_ (b1_ BK149.out)
   have n6_ := aM_ (bD_ HB.out)
   clear HO_4
   clear HO_147000
   clear BK138
   clear BK139
   clear BK146
   clear BK149
   clear HB
   have HO_4 := n0_
   have HO_147000 := n1_
   have BK138 := n2_
   have BK139 := n3_
   have BK146 := n4_
   have BK149 := n5_
   have HB := n6_
   clear n0_ n1_ n2_ n3_ n4_ n5_ n6_
   have p154 : 0 ≤ (x5_1 : Int) := oD_ ‹_›
   have q154 : x5_1 < (t143.length : Int) := oD_ ‹_›
   obtain ⟨ad154, e154, hx154_0⟩ := Kd.at_int (kR_ HO_4.out).2.2 x5_1 p154 q154
   obtain rfl : ad147 = ad154 := (by injection e154)
   replace p154 := eq_true p154
   replace q154 := eq_true q154
   refine start_ (n := 13) (S := fun w' => w'.cell? ⟨gb138, 0, none⟩ = some (.slice (some ad148) l0_0.length c0_0) ∧ w'.cell? (ad147.add (x5_1).toNat) = some (.int .i64 (rd t143 x5_1))) (ds := []) #[fy, fy, fy, fy, fy, fy, fy, fy, fy, fy, fy, fy, fy] (by kernel_rfl) rfl rfl ⟨(bC_ BK138.out 0).trans rfl, hx154_0⟩ (fun hHeld => ?_); refine with_tabW sF69.tab10 sF69.bits10 (fun HT_ HW_ => ?_)
   generalize w40.drew = w41 at HO_4 HO_147000 BK138 BK139 BK146 BK149 HB hx154_0 hHeld ⊢
   refine pu_ HT_ 1 51 #[fy, ty, fy, fy, fy, fy, fy, fy, fy, fy, fy, fy, fy] ?_
   refine pu_ HT_ 2 52 #[fy, ty, ty, fy, fy, fy, fy, fy, fy, fy, fy, fy, fy] ?_
   refine pu_ HT_ 3 53 #[fy, ty, ty, ty, fy, fy, fy, fy, fy, fy, fy, fy, fy] ?_
   refine pu_ HT_ 7 57 #[fy, ty, ty, ty, fy, fy, fy, ty, fy, fy, fy, fy, fy] ?_
   refine tk_ HT_ HW_ 0 50 #[ty, ty, ty, ty, fy, fy, fy, ty, fy, fy, fy, fy, fy] hHeld ?_ (hr := by rintro w' ⟨s0, s1⟩; go_simp; with_reducible rfl)
   refine tk_ HT_ HW_ 4 54 #[ty, ty, ty, ty, ty, fy, fy, ty, fy, fy, fy, fy, fy] hHeld ?_ (hr := by rintro w' ⟨s0, s1⟩; go_simp; with_reducible rfl)
   refine tk_ HT_ HW_ 6 56 #[ty, ty, ty, ty, ty, fy, ty, ty, fy, fy, fy, fy, fy] hHeld ?_ (hr := by rintro w' ⟨s0, s1⟩; go_simp; with_reducible rfl)
   refine one_ (i := 5) (N := some 55) #[ty, ty, ty, ty, ty, ty, ty, ty, fy, fy, fy, fy, fy] rfl rfl (one_of HT_.out (by kernel_rfl)) (by decide) (fun K hK => ?_)
   refine goes_ Tryz.func58 (by kernel_rfl) rfl #[.agg #[.slice (some ad148) l0_0.length c0_0], .int .i64 (rd t143 x5_1)] (by rfl) rfl rfl (by (try simp only [sD_, sE_, sF_]); rfl) ?_
   with_reducible refine (sF58.calls k2 _ _ l0_0 (rd t143 x5_1) t155 _ ?side1 ?side2 A32.out).mono ?_
   (case side1 => repeat (first | exact (k4_ HR0_0.out HB.out) | with_reducible first | apply cA_ | apply cN_ | apply cD_))
   (case side2 => exact HC0_0.out)
   rintro e w42 ⟨rfl, hb⟩
   have HS1_ := (hb.cell (wB_ _ _ (hHeld.2))).trans (hHeld.2)
   refine ⟨_, rfl, ?_⟩
   have n0_ := k9_ HO_4 hb
   have n1_ := k9_ HO_147000 hb
   have n2_ := b5_ BK138 hb
   have n3_ := b5_ BK139 hb
   have n4_ := b5_ BK146 hb
   have n5_ := aM_ (bB_ (g := gb149) (o := .cells #[.string (⟨#[]⟩ : ByteArray), .int .i64 (-1), .bool ((rd_T76 l0_0 (rd t143 x5_1)).f2)] 60 (0, 0)) BK149.out hb)
   have n6_ := b4_ HB hb
   clear HO_4
   clear HO_147000
   clear BK138
   clear BK139
   clear BK146
   clear BK149
   clear HB
   have HO_4 := n0_
   have HO_147000 := n1_
   have BK138 := n2_
   have BK139 := n3_
   have BK146 := n4_
   have BK149 := n5_
   have HB := n6_
   clear n0_ n1_ n2_ n3_ n4_ n5_ n6_
   (try clear hb)
   refine hK.out _ _ ⟨(bC_ BK138.out 0).trans rfl, HS1_⟩ (fun hHeld => ?_)
   clear hK K
   refine norm_ (by show Act.put _ (some 55) _ = _; simp only [Act.put, sA_, sB_, sC_, i6_, i3_]; rfl) ?_
   refine one_ (i := 8) (N := some 58) #[ty, ty, ty, ty, ty, ty, ty, ty, ty, fy, fy, fy, fy] rfl rfl (one_of HT_.out (by kernel_rfl)) (by decide) (fun K hK => ?_)
   refine goes_ Tryz.func58 (by kernel_rfl) rfl #[.agg #[.slice (some ad148) l0_0.length c0_0], .int .i64 x7_2] (by rfl) rfl rfl (by (try simp only [sD_, sE_, sF_]); rfl) ?_
   with_reducible refine (sF58.calls k2 _ _ l0_0 x7_2 t156 _ ?side1 ?side2 A33.out).mono ?_
   (case side1 => repeat (first | exact (k4_ HR0_0.out HB.out) | with_reducible first | apply cA_ | apply cN_ | apply cD_))
   (case side2 => exact HC0_0.out)
   rintro e w43 ⟨rfl, hb⟩
   have HS1_ := (hb.cell (wB_ _ _ (hHeld.2))).trans (hHeld.2)
   refine ⟨_, rfl, ?_⟩
   have n0_ := k9_ HO_4 hb
   have n1_ := k9_ HO_147000 hb
   have n2_ := b5_ BK138 hb
   have n3_ := b5_ BK139 hb
   have n4_ := b5_ BK146 hb
   have n5_ := aM_ (bB_ (g := gb149) (o := .cells #[.string (⟨#[]⟩ : ByteArray), .int .i64 (-1), .bool ((rd_T76 l0_0 (rd t143 x5_1)).f2)] 60 (0, 0)) BK149.out hb)
   have n6_ := b4_ HB hb
   clear HO_4
   clear HO_147000
   clear BK138
   clear BK139
   clear BK146
   clear BK149
   clear HB
   have HO_4 := n0_
   have HO_147000 := n1_
   have BK138 := n2_
   have BK139 := n3_
   have BK146 := n4_
   have BK149 := n5_
   have HB := n6_
   clear n0_ n1_ n2_ n3_ n4_ n5_ n6_
   (try clear hb)
   refine hK.out _ _ ⟨(bC_ BK138.out 0).trans rfl, HS1_⟩ (fun hHeld => ?_)
   clear hK K
   refine norm_ (by show Act.put _ (some 58) _ = _; simp only [Act.put, sA_, sB_, sC_, i6_, i3_]; rfl) ?_
   refine pu_ HT_ 9 59 #[ty, ty, ty, ty, ty, ty, ty, ty, ty, ty, fy, fy, fy] ?_
   refine pu_ HT_ 10 60 #[ty, ty, ty, ty, ty, ty, ty, ty, ty, ty, ty, fy, fy] ?_
   refine pu_ HT_ 11 61 #[ty, ty, ty, ty, ty, ty, ty, ty, ty, ty, ty, ty, fy] ?_
   refine one_ (i := 12) (N := none) #[ty, ty, ty, ty, ty, ty, ty, ty, ty, ty, ty, ty, ty] rfl rfl (one_of HT_.out (by kernel_rfl)) (by decide) (fun K hK => ?_)
   have hs44 : w43.cell? ⟨gb149, 0, none⟩ = some (.string (⟨#[]⟩ : ByteArray)) := (bC_ BK149.out 0).trans rfl
   have hfs44 := bF_ BK149.out 0
   have hns44_0 := NB138_149.out
   have hns44_1 := NB139_149.out
   have hns44_2 := NB146_149.out
   have hms44_0 := NB149_138.out
   have hms44_1 := NB149_139.out
   have hms44_2 := NB149_146.out
   refine skip_ (w1 := ?_) (by rfl) rfl ?_ ?_
   rotate_left
   ·
    go_simp
    rfl
   refine hK.out _ _ ⟨((cF_ (p := ⟨gb149, _, none⟩) NB138_149.out _).trans (hHeld.1)), ((cF_ (p := ⟨gb149, _, none⟩) (by (rw [add_block]; exact k7_ (k6_ HO_4.out BK149.out (by decide)))) _).trans (hHeld.2))⟩ (fun hHeld => ?_)
   clear hK K
   refine done_ (done_of HT_.out (by kernel_rfl)) ?_
   try go_wp2
   go_loopg [8] k2 (fun kq v8 w' => ∃ (x8_3 : Int) (x150001_3 : Int), v8 = .int .i64 x8_3 ∧ Aside0 (sF69.l2 kq t143 x5_1 x7_2 x8_3 l0_0 x147000_1 (t155.extract ((t156.size : Int) : Int).toNat t155.size) x150001_3 ((rd_T76 l0_0 (rd t143 x5_1)).f2) = some r) ∧ Aside0 (kq ≤ k2) ∧ Aside0 (Kd.R (Kd.int .i64) 3 w' w.heap.size (fun _ => True) (.slice (some ad147) t143.length co20) t143) ∧ Aside0 (Kd.R k60 60 w' w.heap.size (fun k_ => k_ ≠ gb149) u147000 x147000_1) ∧ Aside0 (w'.heap[gb138]? = some (.cells #[(.slice (some ad148) l0_0.length c0_0)] 36 (0, 0))) ∧ Aside0 (w'.heap[gb139]? = some (.cells #[(.slice none 0 0)] 30 (0, 0))) ∧ Aside0 (w'.heap[gb146]? = some (.cells #[u147000] 30 (0, 0))) ∧ Aside0 (w'.heap[gb149]? = some (.cells #[.string (t155.extract ((t156.size : Int) : Int).toNat t155.size), .int .i64 x150001_3, .bool ((rd_T76 l0_0 (rd t143 x5_1)).f2)] 60 (0, 0))) ∧ Aside0 (Below w.heap.size w w'))
   case atStart => exact ⟨(0), ((-1)), (by rfl), H', ⟨Nat.le_refl _⟩, ⟨by exact kM_ (kG_ (kT_ HO_4.out BK149.out (by decide))) (fun _ hk => trivial)⟩, ⟨by exact kM_ (kF_ (p := ⟨gb149, 0, none⟩) (kM_ HO_147000.out (fun k_ hk => (⟨hk, hk⟩ : _ ∧ k_ ≠ gb149))) (fun _ hk => hk.2) (.string (t155.extract ((t156.size : Int) : Int).toNat t155.size))) (fun _ hk => hk.1)⟩, ⟨by exact br_ NB138_149.out (BK138.out)⟩, ⟨by exact br_ NB139_149.out (BK139.out)⟩, ⟨by exact br_ NB146_149.out (BK146.out)⟩, ⟨by refine bP_ (cs := #[.string (⟨#[]⟩ : ByteArray), .int .i64 (-1), .bool ((rd_T76 l0_0 (rd t143 x5_1)).f2)]) ?_ 0 _ rfl; exact BK149.out⟩, ⟨by repeat with_reducible first | exact HB.out | apply bA_ | apply bN_ | apply bD_ | refine bS_ ?_ (Aside0.out ‹_›)⟩⟩
   clear H'
   try clear p1
   try clear q1
   try clear hx1
   try clear p2
   try clear p14
   try clear q14
   try clear hx14
   try clear c15b0
   try clear p15
   try clear q15
   try clear hx15
   try clear c16b0
   try clear c17b0
   try clear c18b0
   try clear c19b0
   try clear c30b0
   try clear c31b0
   try clear c34b0
   try clear c34b1
   try clear c35b0
   try clear c35b1
   try clear hcz14_0
   try clear hcz39_0
   try clear hcz9_0
   try clear hfz14_0
   try clear hfz39_0
   try clear hfz9_0
   try clear hx147_0
   try clear hx148_0
   try clear hx148_1
   try clear hx148_2
   try clear hx150_0
   try clear hx151_0
   try clear hx151_1
   try clear hx151_2
   try clear hx154_0
   try clear p1
   try clear p14
   try clear p147
   try clear p148
   try clear p15
   try clear p150
   try clear p151
   try clear p154
   try clear p2
   try clear q1
   try clear q14
   try clear q147
   try clear q148
   try clear q15
   try clear q150
   try clear q151
   try clear q154
   obtain ⟨x8_3, x150001_3, rfl, HA, HK3, HO_4, HO_147000, BK138, BK139, BK146, BK149, HB⟩ := hrel
   cases gk with
   | zero => exact absurd HA.out (by simp [sF69.l2])
   | succ k3 =>
    have H := HA.out
    clear HA
    simp only [sF69.l2] at H
    by_cases c45 : x8_3 < x5_1
    rotate_left
    ·
     rw [if_neg c45] at H
     have c45b0 := dF_ c45
     clear c45
     by_cases c53 : x147000_1.length < 4398046511104
     rotate_left
     ·
      rw [if_neg c53] at H
      exact absurd H (by simp)
     rw [if_pos c53] at H
     have LMc53 := aM_ c53
     clear c53
     obtain ⟨y158, hy158⟩ : ∃ y_ : List (S60), y_ = (x147000_1 ++ [(⟨(t155.extract ((t156.size : Int) : Int).toNat t155.size), x150001_3, ((rd_T76 l0_0 (rd t143 x5_1)).f2)⟩ : S60)]) := ⟨_, rfl⟩
     replace H : (sF69.l0 k3 t143 (wrap64 (x5_1 + 1)) l0_0 y158) = some r := by (try rw [hy158]); first | with_reducible exact H | with_reducible exact oS_ H | exact H
     have Ny158 := aM_ hy158
     clear hy158
     have H' := aM_ H
     clear H
     have hnb54 := NB146_138.out
     have hnc54 := NB138_146.out
     have hnb55 := NB146_139.out
     have hnc55 := NB139_146.out
     have hnb56 := NB146_149.out
     have hnc56 := NB149_146.out
     have hcz57_0 := c0_ BK146
     have hfz57_0 := bF_ BK146.out 0
     have hnb58 := NB149_138.out
     have hnc58 := NB138_149.out
     have hnb59 := NB149_139.out
     have hnc59 := NB139_149.out
     have hcz60_0 := c0_ BK149
     have hcz60_1 := c1_ BK149
     have hcz60_2 := c2_ BK149
     have hfz60_0 := bF_ BK149.out 0
     have hfz60_1 := bF_ BK149.out 1
     have hfz60_2 := bF_ BK149.out 2
     go_wp2_with (first | ((with_reducible refine gate_builtin (b := .append) (xs := #[.tmp 76, .tmp 78]) rfl ?_); at_builtin; refine Kd.R_append k60 (w0 := w) w.heap.size rfl (.tmp 76) (.tmp 78) 28 60 (.agg #[(.string ⟨#[]⟩), (.int .i64 0), (.bool false)]) 32 rfl Tryz.underlying28 info60 rfl (by decide) (by omega) u147000 x147000_1 (⟨(t155.extract ((t156.size : Int) : Int).toNat t155.size), x150001_3, ((rd_T76 l0_0 (rd t143 x5_1)).f2)⟩ : S60) [.string (t155.extract ((t156.size : Int) : Int).toNat t155.size), .int .i64 x150001_3, .bool ((rd_T76 l0_0 (rd t143 x5_1)).f2)] (fun k_ => k_ ≠ gb149) (fun _ => False) rfl rfl ?aP (fun _ hk => hk.elim) ?aF ?aO ?aB ?aS ?aL ?_; (case aP => exact k60_mkM _ _ _ (⟨(t155.extract ((t156.size : Int) : Int).toNat t155.size), x150001_3, ((rd_T76 l0_0 (rd t143 x5_1)).f2)⟩ : S60)); (case aB => exact HB.out); (case aF => exact (fun k_ hk => Kd.freshB (g := gb149) (o := .cells #[.string (t155.extract ((t156.size : Int) : Int).toNat t155.size), .int .i64 x150001_3, .bool ((rd_T76 l0_0 (rd t143 x5_1)).f2)] 60 (0, 0)) BK149.out k_ hk)); (case aO => exact HO_147000.out); (case aS => exact (bZ_ HB.out)); (case aL => have := LMc53.out; omega); intro v159 w61 ho hb hg hat; rw [← Ny158.out] at ho; have n0_ := aM_ (Kd.R_over' HO_4.out (Kd.R_typed HO_147000.out) (by decide) hg); have n1_ := aM_ (blk_grown (g := gb138) (o := .cells #[.slice (some ad148) l0_0.length c0_0] 36 (0, 0)) BK138.out hg (k6_ HO_147000.out BK138.out (by decide))); have n2_ := aM_ (blk_grown (g := gb139) (o := .cells #[.slice none 0 0] 30 (0, 0)) BK139.out hg (k6_ HO_147000.out BK139.out (by decide))); have n3_ := aM_ (blk_grown (g := gb146) (o := .cells #[u147000] 30 (0, 0)) BK146.out hg (k6_ HO_147000.out BK146.out (by decide))); have n4_ := aM_ (blk_grown (g := gb149) (o := .cells #[.string (t155.extract ((t156.size : Int) : Int).toNat t155.size), .int .i64 x150001_3, .bool ((rd_T76 l0_0 (rd t143 x5_1)).f2)] 60 (0, 0)) BK149.out hg (Kd.R_away HO_147000.out (fun _ hk => hk))); have n5_ := aM_ (hb); have n6_ := aM_ (ho); clear HO_4; clear BK138; clear BK139; clear BK146; clear BK149; clear HB; clear HO_147000; have HO_4 := n0_; have BK138 := n1_; have BK139 := n2_; have BK146 := n3_; have BK149 := n4_; have HB := n5_; have HO160 := n6_; clear n0_ n1_ n2_ n3_ n4_ n5_ n6_; clear ho hb hg hat; obtain ⟨Ao62, co62, eo62⟩ := kS_ HO160.out; subst eo62; have hcz63_0 := c0_ BK146; have hfz63_0 := bF_ BK146.out 0))
     go_roundg k3
     case measure => have := HK1.out; have := HK2.out; have := HK3.out; omega
     case rel => exact ⟨(wrap64 (x5_1 + 1)), (y158), (.slice Ao62 y158.length co62), (by rfl), H', ⟨by have := HK1.out; have := HK2.out; have := HK3.out; omega⟩, ⟨by exact kM_ (kG_ (kT_ HO_4.out BK146.out (by decide))) (fun _ hk => trivial)⟩, ⟨by exact kM_ (kG_ (kT_ HO160.out BK146.out (by decide))) (fun _ hk => trivial)⟩, ⟨by exact br_ NB138_146.out (BK138.out)⟩, ⟨by exact br_ NB139_146.out (BK139.out)⟩, ⟨by refine bP_ (cs := #[u147000]) ?_ 0 _ rfl; exact BK146.out⟩, ⟨by repeat with_reducible first | exact HB.out | apply bA_ | apply bN_ | apply bD_ | refine bS_ ?_ (Aside0.out ‹_›)⟩⟩
    rw [if_pos c45] at H
    have c45b0 := dT_ c45
    clear c45
    by_cases c46 : 0 ≤ x8_3
    rotate_left
    ·
     rw [if_neg c46] at H
     exact absurd H (by simp)
    rw [if_pos c46] at H
    have c46b0 := dT_ c46
    clear c46
    by_cases c47 : x8_3 < (t143.length : Int)
    rotate_left
    ·
     rw [if_neg c47] at H
     exact absurd H (by simp)
    rw [if_pos c47] at H
    have c47b0 := dT_ c47
    clear c47
    by_cases c48 : (rd t143 x8_3) = x7_2
    ·
     rw [if_pos c48] at H
     have c48b0 : ((rd t143 x8_3) == x7_2) = true := beq_iff_eq.mpr c48
     have c48b1 : ((rd t143 x8_3) != x7_2) = false := bne_eq_false_iff_eq.mpr c48
     clear c48
     have H' := aM_ H
     clear H
     have p157 : 0 ≤ (x8_3 : Int) := oD_ ‹_›
     have q157 : x8_3 < (t143.length : Int) := oD_ ‹_›
     obtain ⟨ad157, e157, hx157_0⟩ := Kd.at_int (kR_ HO_4.out).2.2 x8_3 p157 q157
     obtain rfl : ad147 = ad157 := (by injection e157)
     replace p157 := eq_true p157
     replace q157 := eq_true q157
     have hnb49 := NB149_138.out
     have hnc49 := NB138_149.out
     have hnb50 := NB149_139.out
     have hnc50 := NB139_149.out
     have hnb51 := NB149_146.out
     have hnc51 := NB146_149.out
     have hcz52_0 := c0_ BK149
     have hcz52_1 := c1_ BK149
     have hcz52_2 := c2_ BK149
     have hfz52_0 := bF_ BK149.out 0
     have hfz52_1 := bF_ BK149.out 1
     have hfz52_2 := bF_ BK149.out 2
     go_wp2
     go_roundg k3
     case measure => have := HK1.out; have := HK2.out; have := HK3.out; omega
     case rel => exact ⟨(wrap64 (x8_3 + 1)), (x8_3), (by rfl), H', ⟨by have := HK1.out; have := HK2.out; have := HK3.out; omega⟩, ⟨by exact kM_ (kG_ (kT_ HO_4.out BK149.out (by decide))) (fun _ hk => trivial)⟩, ⟨by exact kM_ (kF_ (p := ⟨gb149, 1, none⟩) (kM_ HO_147000.out (fun k_ hk => (⟨hk, hk⟩ : _ ∧ k_ ≠ gb149))) (fun _ hk => hk.2) (.int .i64 x8_3)) (fun _ hk => hk.1)⟩, ⟨by exact br_ NB138_149.out (BK138.out)⟩, ⟨by exact br_ NB139_149.out (BK139.out)⟩, ⟨by exact br_ NB146_149.out (BK146.out)⟩, ⟨by refine bP_ (cs := #[.string (t155.extract ((t156.size : Int) : Int).toNat t155.size), .int .i64 x150001_3, .bool ((rd_T76 l0_0 (rd t143 x5_1)).f2)]) ?_ 1 _ rfl; exact BK149.out⟩, ⟨by repeat with_reducible first | exact HB.out | apply bA_ | apply bN_ | apply bD_ | refine bS_ ?_ (Aside0.out ‹_›)⟩⟩
    rw [if_neg c48] at H
    have c48b0 : ((rd t143 x8_3) == x7_2) = false := beq_eq_false_iff_ne.mpr c48
    have c48b1 : ((rd t143 x8_3) != x7_2) = true := bne_iff_ne.mpr c48
    have H' := aM_ H
    clear H
    have p157 : 0 ≤ (x8_3 : Int) := oD_ ‹_›
    have q157 : x8_3 < (t143.length : Int) := oD_ ‹_›
    obtain ⟨ad157, e157, hx157_0⟩ := Kd.at_int (kR_ HO_4.out).2.2 x8_3 p157 q157
    obtain rfl : ad147 = ad157 := (by injection e157)
    replace p157 := eq_true p157
    replace q157 := eq_true q157
    go_wp2
    go_roundg k3
    case measure => have := HK1.out; have := HK2.out; have := HK3.out; omega
    case rel => exact ⟨(wrap64 (x8_3 + 1)), (x150001_3), (by rfl), H', ⟨by have := HK1.out; have := HK2.out; have := HK3.out; omega⟩, ⟨HO_4.out⟩, ⟨HO_147000.out⟩, ⟨BK138.out⟩, ⟨BK139.out⟩, ⟨BK146.out⟩, ⟨BK149.out⟩, ⟨HB.out⟩⟩
def sF56.f (l0 : List ByteArray) : Option (List ByteArray) := (some (([] : List ByteArray) : List ByteArray)).bind fun y164 => (if y164.length + l0.length < 8796093022208 then (some (y164 ++ l0)) else (none))
theorem sF56.calls (A0 : Option Addr) (c0 : Nat) (l0 : List ByteArray) (r : List ByteArray) (w : World) (hr0 : Kd.C Kd.string w A0 l0.length l0) (hc0 : l0.length ≤ c0) (h : sF56.f l0 = some r) :
  Calls Tryz.prog 78 #[.slice A0 l0.length c0] w fun e w' => ∃ v0_ : Value, e = .returned (v0_) ∧ Kd.R Kd.string 9 w' w.heap.size (fun _ => True) v0_ r ∧ Below w.heap.size w w' := by
 have HR0 := aM_ hr0
 have HC0 := aM_ hc0
 clear hr0 hc0
 have HB := aM_ (Below.refl w.heap.size w)
 have H : ((some (([] : List ByteArray) : List ByteArray)).bind fun y164 => (if y164.length + l0.length < 8796093022208 then (some (y164 ++ l0)) else (none))) = some r := h
 clear h
 obtain ⟨y164, hy164⟩ : ∃ y_ : List ByteArray, y_ = (([] : List ByteArray)) := ⟨_, rfl⟩
 replace H : (if y164.length + l0.length < 8796093022208 then (some (y164 ++ l0)) else (none)) = some r := by (try rw [hy164]); first | with_reducible exact H | with_reducible exact oS_ H | exact H
 have Ny164 := aM_ hy164
 clear hy164
 by_cases c2 : y164.length + l0.length < 8796093022208
 rotate_left
 ·
  rw [if_neg c2] at H
  exact absurd H (by simp)
 rw [if_pos c2] at H
 have LMc2 := aM_ c2
 clear c2
 obtain ⟨y167, hy167⟩ : ∃ y_ : List ByteArray, y_ = (y164 ++ l0) := ⟨_, rfl⟩
 replace H : (some y167) = some r := by (try rw [hy167]); first | with_reducible exact H | with_reducible exact oS_ H | exact H
 have Ny167 := aM_ hy167
 clear hy167
 obtain rfl := Option.some.inj H
 go_enter Tryz.func78, Tryz.ntmps78
 go_wp2_with (first | ((with_reducible refine gD_ (N := 3) rfl ?_); refine Kd.R_lit Kd.string _ 9 ?hg (N := 3) ?hd (xs := ([] : List ByteArray)) (inner := []) (ok := fun _ => True) (okp := fun _ => True) ?hr ?hp (fun _ hk => hk) trivial (Below.refl _ _) (Nat.le_refl _) (by simp) ?_; (case hd => rfl); (case hg => rfl); (case hr => (go_simp; done)); (case hp => exact (Reps.none _ _)); intro v165 w3 ho4 hb hg_ hnew_; clear hg_ hnew_; (rw [← Ny164.out] at ho4); have HO166 := aM_ (k5_ ho4 (bZ_ HB.out)); replace HB := b4_ HB hb; clear hb ho4) | ((with_reducible refine gate_builtin (b := .append) (xs := #[.tmp 3, .tmp 4]) rfl ?_); at_builtin; refine Kd.R_append_rows Kd.string (w0 := w) w.heap.size rfl (.tmp 3) (.tmp 4) 49 9 (.string ⟨#[]⟩) 16 rfl Tryz.underlying49 info9 rfl (by decide) (by omega) v165 y164 l0 _ _ _ (fun _ => True) (fun _ => False) rfl rfl ?aO ?aR (fun _ _ h => h) (fun _ h => h.elim) ?aF ?aB ?aS ?aL ?_; (case aR => repeat (first | exact (k4_ HR0.out HB.out) | with_reducible first | apply cA_ | apply cN_ | apply cD_)); (case aB => exact HB.out); (case aF => exact (fun _ _ => trivial)); (case aO => exact HO166.out); (case aS => exact (bZ_ HB.out)); (case aL => have := LMc2.out; omega); intro v168 w5 ho hb hg hat; rw [← Ny167.out] at ho; have n0_ := aM_ (hb); have n1_ := aM_ (ho); clear HB; clear HO166; have HB := n0_; have HO169 := n1_; clear n0_ n1_; clear ho hb hg hat))
 go_ret
 exact ⟨_, by rfl, by exact HO169.out, by exact HB.out⟩
mutual
def sF52.l0 : Nat → ByteArray → ByteArray → Int → Option (Bool)
 | 0, _, _, _ => none
 | k + 1, x0, x1, x5 => if x5 < (x0.size : Int) then (sF52.j1 k x0 x1 x5 (decide (x5 < (x1.size : Int)))) else (sF52.j1 k x0 x1 x5 false)
def sF52.j1 : Nat → ByteArray → ByteArray → Int → Bool → Option (Bool)
 | 0, _, _, _, _ => none
 | k + 1, x0, x1, x5, x15 => if x15 = true then (if 0 ≤ x5 then (if x5 < (x0.size : Int) then (if x5 < (x1.size : Int) then (if (bt x0 x5) = (bt x1 x5) then (sF52.l0 k x0 x1 (wrap64 (x5 + 1))) else (some (decide ((bt x0 x5) < (bt x1 x5))))) else (none)) else (none)) else (none)) else (some (decide ((x0.size : Int) < (x1.size : Int))))
end
def sF52.f (k : Nat) (a0 : ByteArray) (a1 : ByteArray) : Option (Bool) := sF52.l0 k a0 a1 0
theorem sF52.mono_l : ∀ k, (∀ y0 y1 y2, LeO (sF52.l0 k y0 y1 y2) (sF52.l0 (k + 1) y0 y1 y2)) ∧ (∀ y0 y1 y2 y3, LeO (sF52.j1 k y0 y1 y2 y3) (sF52.j1 (k + 1) y0 y1 y2 y3))
 | 0 => ⟨fun _ _ _ r h => by simp [sF52.l0] at h, fun _ _ _ _ r h => by simp [sF52.j1] at h⟩
 | k + 1 => by
  obtain ⟨ih0, ih1⟩ := sF52.mono_l k
  refine ⟨?_, ?_⟩
  ·
   intro y0 y1 y2
   unfold sF52.l0
   repeat' with_reducible first | exact ih0 _ _ _ | exact ih1 _ _ _ _ | exact l3_ _ | exact l0_ _ | refine l2_ ?_ ?_ | refine l1_ ?_ (fun _ => ?_)
  intro y0 y1 y2 y3
  unfold sF52.j1
  repeat' with_reducible first | exact ih0 _ _ _ | exact ih1 _ _ _ _ | exact l3_ _ | exact l0_ _ | refine l2_ ?_ ?_ | refine l1_ ?_ (fun _ => ?_)
theorem sF52.mono : ∀ a0 a1 k, LeO (sF52.f k a0 a1) (sF52.f (k + 1) a0 a1) := by
 intro a0 a1 k
 obtain ⟨ih0, ih1⟩ := sF52.mono_l k
 unfold sF52.f
 repeat' with_reducible first | exact ih0 _ _ _ | exact ih1 _ _ _ _ | exact l3_ _ | exact l0_ _ | refine l2_ ?_ ?_ | refine l1_ ?_ (fun _ => ?_)
theorem sF52.calls (k : Nat) (a0 : ByteArray) (a1 : ByteArray) (r : Bool) (w : World) (h : sF52.f k a0 a1 = some r) :
  Calls Tryz.prog 90 #[.string a0, .string a1] w fun e w' => e = .returned (.bool r) ∧ Drawn0 w w' := by
 have H : (sF52.l0 k a0 a1 0) = some r := h
 clear h
 have H' := aM_ H
 clear H
 go_enter Tryz.func90, Tryz.ntmps90
 go_wp2
 repeat (go_quiet (fail); try go_wp2)
 go_loopg [5] k (fun kq v5 w' => ∃ (x5_1 : Int), v5 = .int .i64 x5_1 ∧ Aside0 (sF52.l0 kq a0 a1 x5_1 = some r) ∧ Aside0 (kq ≤ k) ∧ Drawn0 w w')
 case atStart => exact ⟨(0), (by rfl), H', ⟨Nat.le_refl _⟩, by repeat (first | exact Drawn0.refl _ | apply Drawn0.step)⟩
 clear H'
 try clear p2
 obtain ⟨x5_1, rfl, HA, HK1, ⟨m1, rfl⟩⟩ := hrel
 cases gk with
 | zero => exact absurd HA.out (by simp [sF52.l0])
 | succ k1 =>
  have H := HA.out
  clear HA
  simp only [sF52.l0] at H
  have HC3 := aM_ H
  clear H
  go_upto_region 2 with (fail)
  repeat (go_quiet (fail); go_upto_region 2 with (fail))
  go_cut [15] (fun v15 wc => ∃ (kq : Nat) (x15_2 : Bool), v15 = .bool x15_2 ∧ Aside0 (sF52.j1 kq a0 a1 x5_1 x15_2 = some r) ∧ Aside0 (kq ≤ k1) ∧ Drawn0 w wc)
  case first =>
   have H := HC3.out
   clear HC3
   by_cases c4 : x5_1 < (a0.size : Int)
   ·
    rw [if_pos c4] at H
    have c4b0 := dT_ c4
    clear c4
    (skip)
    have H' := aM_ H
    clear H
    go_wp2
    repeat (go_quiet (fail); try go_wp2)
    go_meet
    case rel => exact ⟨_, (decide (x5_1 < (a1.size : Int))), (by rfl), H', ⟨by have := HK1.out; omega⟩, by repeat (first | exact Drawn0.refl _ | apply Drawn0.step)⟩
   rw [if_neg c4] at H
   have c4b0 := dF_ c4
   clear c4
   (skip)
   have H' := aM_ H
   clear H
   go_wp2
   repeat (go_quiet (fail); try go_wp2)
   go_meet
   case rel => exact ⟨_, (false), (by rfl), H', ⟨by have := HK1.out; omega⟩, by repeat (first | exact Drawn0.refl _ | apply Drawn0.step)⟩
  clear HC3
  try clear p2
  try clear c4b0
  try clear p2
  obtain ⟨kq, x15_2, rfl, HA, HJ2, ⟨mc2, rfl⟩⟩ := hcut
  cases kq with
  | zero => exact absurd HA.out (by simp [sF52.j1])
  | succ kj2 =>
   have H := HA.out
   clear HA
   simp only [sF52.j1] at H
   by_cases c5 : x15_2 = true
   rotate_left
   ·
    replace c5 := Bool.eq_false_iff.mpr c5
    subst c5
    replace H : (some (decide ((a0.size : Int) < (a1.size : Int)))) = some r := by rw [if_neg (show ¬ (false = true) by decide)] at H; exact H
    obtain rfl := Option.some.inj H
    go_wp2
    repeat (go_quiet (fail); try go_wp2)
    go_ret
    exact ⟨by rfl, by repeat (first | exact Drawn0.refl _ | apply Drawn0.step)⟩
   subst c5
   rw [if_pos rfl] at H
   by_cases c6 : 0 ≤ x5_1
   rotate_left
   ·
    rw [if_neg c6] at H
    exact absurd H (by simp)
   rw [if_pos c6] at H
   have c6b0 := dT_ c6
   clear c6
   by_cases c7 : x5_1 < (a0.size : Int)
   rotate_left
   ·
    rw [if_neg c7] at H
    exact absurd H (by simp)
   rw [if_pos c7] at H
   have c7b0 := dT_ c7
   clear c7
   by_cases c9 : x5_1 < (a1.size : Int)
   rotate_left
   ·
    rw [if_neg c9] at H
    exact absurd H (by simp)
   rw [if_pos c9] at H
   have c9b0 := dT_ c9
   clear c9
   by_cases c11 : (bt a0 x5_1) = (bt a1 x5_1)
   ·
    rw [if_pos c11] at H
    have c11b0 : ((bt a0 x5_1) == (bt a1 x5_1)) = true := beq_iff_eq.mpr c11
    have c11b1 : ((bt a0 x5_1) != (bt a1 x5_1)) = false := bne_eq_false_iff_eq.mpr c11
    clear c11
    have H' := aM_ H
    clear H
    have p8 : 0 ≤ (x5_1 : Int) := oD_ ‹_›
    have q8 : x5_1 < (a0.size : Int) := oD_ ‹_›
    have hx8 := bt_at a0 x5_1
    replace p8 := eq_true p8
    replace q8 := eq_true q8
    have p10 : 0 ≤ (x5_1 : Int) := oD_ ‹_›
    have q10 : x5_1 < (a1.size : Int) := oD_ ‹_›
    have hx10 := bt_at a1 x5_1
    replace p10 := eq_true p10
    replace q10 := eq_true q10
    go_wp2
    repeat (go_quiet (fail); try go_wp2)
    go_roundg kj2
    case measure => have := HK1.out; have := HJ2.out; omega
    case rel => exact ⟨(wrap64 (x5_1 + 1)), (by rfl), H', ⟨by have := HK1.out; have := HJ2.out; omega⟩, by repeat (first | exact Drawn0.refl _ | apply Drawn0.step)⟩
   rw [if_neg c11] at H
   have c11b0 : ((bt a0 x5_1) == (bt a1 x5_1)) = false := beq_eq_false_iff_ne.mpr c11
   have c11b1 : ((bt a0 x5_1) != (bt a1 x5_1)) = true := bne_iff_ne.mpr c11
   obtain rfl := Option.some.inj H
   have p8 : 0 ≤ (x5_1 : Int) := oD_ ‹_›
   have q8 : x5_1 < (a0.size : Int) := oD_ ‹_›
   have hx8 := bt_at a0 x5_1
   replace p8 := eq_true p8
   replace q8 := eq_true q8
   have p10 : 0 ≤ (x5_1 : Int) := oD_ ‹_›
   have q10 : x5_1 < (a1.size : Int) := oD_ ‹_›
   have hx10 := bt_at a1 x5_1
   replace p10 := eq_true p10
   replace q10 := eq_true q10
   have p12 : 0 ≤ (x5_1 : Int) := oD_ ‹_›
   have q12 : x5_1 < (a0.size : Int) := oD_ ‹_›
   have hx12 := bt_at a0 x5_1
   replace p12 := eq_true p12
   replace q12 := eq_true q12
   have p13 : 0 ≤ (x5_1 : Int) := oD_ ‹_›
   have q13 : x5_1 < (a1.size : Int) := oD_ ‹_›
   have hx13 := bt_at a1 x5_1
   replace p13 := eq_true p13
   replace q13 := eq_true q13
   go_wp2
   repeat (go_quiet (fail); try go_wp2)
   go_ret
   exact ⟨by rfl, by repeat (first | exact Drawn0.refl _ | apply Drawn0.step)⟩
def sF53.l0 : Nat → List ByteArray → ByteArray → Int → Option (Bool)
 | 0, _, _, _ => none
 | k + 1, x0, x1, x5 => if x5 < (x0.length : Int) then (if 0 ≤ x5 then (if (rdOf eB_ x0 x5).toList = x1.toList then (some true) else (sF53.l0 k x0 x1 (wrap64 (x5 + 1)))) else (none)) else (some false)
def sF53.f (k : Nat) (l0 : List ByteArray) (a1 : ByteArray) : Option (Bool) := sF53.l0 k l0 a1 0
theorem sF53.mono_l : ∀ k, (∀ y0 y1 y2, LeO (sF53.l0 k y0 y1 y2) (sF53.l0 (k + 1) y0 y1 y2))
 | 0 => fun _ _ _ r h => by simp [sF53.l0] at h
 | k + 1 => by
  have ih0 := sF53.mono_l k
  intro y0 y1 y2
  unfold sF53.l0
  repeat' with_reducible first | exact ih0 _ _ _ | exact l3_ _ | exact l0_ _ | refine l2_ ?_ ?_ | refine l1_ ?_ (fun _ => ?_)
theorem sF53.mono : ∀ a0 a1 k, LeO (sF53.f k a0 a1) (sF53.f (k + 1) a0 a1) := by
 intro a0 a1 k
 have ih0 := sF53.mono_l k
 unfold sF53.f
 repeat' with_reducible first | exact ih0 _ _ _ | exact l3_ _ | exact l0_ _ | refine l2_ ?_ ?_ | refine l1_ ?_ (fun _ => ?_)
theorem sF53.calls (k : Nat) (A0 : Option Addr) (c0 : Nat) (l0 : List ByteArray) (a1 : ByteArray) (r : Bool) (w : World) (hr0 : Kd.C Kd.string w A0 l0.length l0) (hc0 : l0.length ≤ c0) (h : sF53.f k l0 a1 = some r) :
  Calls Tryz.prog 28 #[.slice A0 l0.length c0, .string a1] w fun e w' => e = .returned (.bool r) ∧ Drawn0 w w' := by
 have HR0 := aM_ hr0
 have HC0 := aM_ hc0
 clear hr0 hc0
 have H : (sF53.l0 k l0 a1 0) = some r := h
 clear h
 have H' := aM_ H
 clear H
 go_enter Tryz.func28, Tryz.ntmps28
 go_wp2
 go_loopg [5] k (fun kq v5 w' => ∃ (x5_1 : Int), v5 = .int .i64 x5_1 ∧ Aside0 (sF53.l0 kq l0 a1 x5_1 = some r) ∧ Aside0 (kq ≤ k) ∧ Drawn0 w w')
 case atStart => exact ⟨(0), (by rfl), H', ⟨Nat.le_refl _⟩, by repeat (first | exact Drawn0.refl _ | apply Drawn0.step)⟩
 clear H'
 try clear p2
 obtain ⟨x5_1, rfl, HA, HK1, ⟨m1, rfl⟩⟩ := hrel
 cases gk with
 | zero => exact absurd HA.out (by simp [sF53.l0])
 | succ k1 =>
  have H := HA.out
  clear HA
  simp only [sF53.l0] at H
  by_cases c3 : x5_1 < (l0.length : Int)
  rotate_left
  ·
   rw [if_neg c3] at H
   have c3b0 := dF_ c3
   clear c3
   obtain rfl := Option.some.inj H
   go_wp2
   go_ret
   exact ⟨by rfl, by repeat (first | exact Drawn0.refl _ | apply Drawn0.step)⟩
  rw [if_pos c3] at H
  have c3b0 := dT_ c3
  clear c3
  by_cases c4 : 0 ≤ x5_1
  rotate_left
  ·
   rw [if_neg c4] at H
   exact absurd H (by simp)
  rw [if_pos c4] at H
  have c4b0 := dT_ c4
  clear c4
  by_cases c5 : (rdOf eB_ l0 x5_1).toList = a1.toList
  ·
   rw [if_pos c5] at H
   have c5b0 : ((rdOf eB_ l0 x5_1).toList == a1.toList) = true := beq_iff_eq.mpr c5
   have c5b1 : ((rdOf eB_ l0 x5_1).toList != a1.toList) = false := bne_eq_false_iff_eq.mpr c5
   clear c5
   obtain rfl := Option.some.inj H
   have p216 : 0 ≤ (x5_1 : Int) := oD_ ‹_›
   have q216 : x5_1 < (l0.length : Int) := oD_ ‹_›
   obtain ⟨ad216, e216, hx216_0⟩ := Kd.at_string HR0.out x5_1 p216 q216
   cases e216
   replace p216 := eq_true p216
   replace q216 := eq_true q216
   go_wp2
   go_ret
   exact ⟨by rfl, by repeat (first | exact Drawn0.refl _ | apply Drawn0.step)⟩
  rw [if_neg c5] at H
  have c5b0 : ((rdOf eB_ l0 x5_1).toList == a1.toList) = false := beq_eq_false_iff_ne.mpr c5
  have c5b1 : ((rdOf eB_ l0 x5_1).toList != a1.toList) = true := bne_iff_ne.mpr c5
  have H' := aM_ H
  clear H
  have p216 : 0 ≤ (x5_1 : Int) := oD_ ‹_›
  have q216 : x5_1 < (l0.length : Int) := oD_ ‹_›
  obtain ⟨ad216, e216, hx216_0⟩ := Kd.at_string HR0.out x5_1 p216 q216
  cases e216
  replace p216 := eq_true p216
  replace q216 := eq_true q216
  go_wp2
  go_roundg k1
  case measure => have := HK1.out; omega
  case rel => exact ⟨(wrap64 (x5_1 + 1)), (by rfl), H', ⟨by have := HK1.out; omega⟩, by repeat (first | exact Drawn0.refl _ | apply Drawn0.step)⟩
def sF57.l0 : Nat → List ByteArray → ByteArray → Int → Option (Int)
 | 0, _, _, _ => none
 | k + 1, x0, x1, x5 => if x5 < (x0.length : Int) then (if 0 ≤ x5 then (if (rdOf eB_ x0 x5).toList = x1.toList then (some x5) else (sF57.l0 k x0 x1 (wrap64 (x5 + 1)))) else (none)) else (some (-1))
def sF57.f (k : Nat) (l0 : List ByteArray) (a1 : ByteArray) : Option (Int) := sF57.l0 k l0 a1 0
theorem sF57.mono_l : ∀ k, (∀ y0 y1 y2, LeO (sF57.l0 k y0 y1 y2) (sF57.l0 (k + 1) y0 y1 y2))
 | 0 => fun _ _ _ r h => by simp [sF57.l0] at h
 | k + 1 => by
  have ih0 := sF57.mono_l k
  intro y0 y1 y2
  unfold sF57.l0
  repeat' with_reducible first | exact ih0 _ _ _ | exact l3_ _ | exact l0_ _ | refine l2_ ?_ ?_ | refine l1_ ?_ (fun _ => ?_)
theorem sF57.mono : ∀ a0 a1 k, LeO (sF57.f k a0 a1) (sF57.f (k + 1) a0 a1) := by
 intro a0 a1 k
 have ih0 := sF57.mono_l k
 unfold sF57.f
 repeat' with_reducible first | exact ih0 _ _ _ | exact l3_ _ | exact l0_ _ | refine l2_ ?_ ?_ | refine l1_ ?_ (fun _ => ?_)
theorem sF57.calls (k : Nat) (A0 : Option Addr) (c0 : Nat) (l0 : List ByteArray) (a1 : ByteArray) (r : Int) (w : World) (hr0 : Kd.C Kd.string w A0 l0.length l0) (hc0 : l0.length ≤ c0) (h : sF57.f k l0 a1 = some r) :
  Calls Tryz.prog 77 #[.slice A0 l0.length c0, .string a1] w fun e w' => e = .returned (.int .i64 r) ∧ Drawn0 w w' := by
 have HR0 := aM_ hr0
 have HC0 := aM_ hc0
 clear hr0 hc0
 have H : (sF57.l0 k l0 a1 0) = some r := h
 clear h
 have H' := aM_ H
 clear H
 go_enter Tryz.func77, Tryz.ntmps77
 go_wp2
 go_loopg [5] k (fun kq v5 w' => ∃ (x5_1 : Int), v5 = .int .i64 x5_1 ∧ Aside0 (sF57.l0 kq l0 a1 x5_1 = some r) ∧ Aside0 (kq ≤ k) ∧ Drawn0 w w')
 case atStart => exact ⟨(0), (by rfl), H', ⟨Nat.le_refl _⟩, by repeat (first | exact Drawn0.refl _ | apply Drawn0.step)⟩
 clear H'
 try clear p2
 obtain ⟨x5_1, rfl, HA, HK1, ⟨m1, rfl⟩⟩ := hrel
 cases gk with
 | zero => exact absurd HA.out (by simp [sF57.l0])
 | succ k1 =>
  have H := HA.out
  clear HA
  simp only [sF57.l0] at H
  by_cases c3 : x5_1 < (l0.length : Int)
  rotate_left
  ·
   rw [if_neg c3] at H
   have c3b0 := dF_ c3
   clear c3
   obtain rfl := Option.some.inj H
   go_wp2
   go_ret
   exact ⟨by rfl, by repeat (first | exact Drawn0.refl _ | apply Drawn0.step)⟩
  rw [if_pos c3] at H
  have c3b0 := dT_ c3
  clear c3
  by_cases c4 : 0 ≤ x5_1
  rotate_left
  ·
   rw [if_neg c4] at H
   exact absurd H (by simp)
  rw [if_pos c4] at H
  have c4b0 := dT_ c4
  clear c4
  by_cases c5 : (rdOf eB_ l0 x5_1).toList = a1.toList
  ·
   rw [if_pos c5] at H
   have c5b0 : ((rdOf eB_ l0 x5_1).toList == a1.toList) = true := beq_iff_eq.mpr c5
   have c5b1 : ((rdOf eB_ l0 x5_1).toList != a1.toList) = false := bne_eq_false_iff_eq.mpr c5
   clear c5
   obtain rfl := Option.some.inj H
   have p217 : 0 ≤ (x5_1 : Int) := oD_ ‹_›
   have q217 : x5_1 < (l0.length : Int) := oD_ ‹_›
   obtain ⟨ad217, e217, hx217_0⟩ := Kd.at_string HR0.out x5_1 p217 q217
   cases e217
   replace p217 := eq_true p217
   replace q217 := eq_true q217
   go_wp2
   go_ret
   exact ⟨by rfl, by repeat (first | exact Drawn0.refl _ | apply Drawn0.step)⟩
  rw [if_neg c5] at H
  have c5b0 : ((rdOf eB_ l0 x5_1).toList == a1.toList) = false := beq_eq_false_iff_ne.mpr c5
  have c5b1 : ((rdOf eB_ l0 x5_1).toList != a1.toList) = true := bne_iff_ne.mpr c5
  have H' := aM_ H
  clear H
  have p217 : 0 ≤ (x5_1 : Int) := oD_ ‹_›
  have q217 : x5_1 < (l0.length : Int) := oD_ ‹_›
  obtain ⟨ad217, e217, hx217_0⟩ := Kd.at_string HR0.out x5_1 p217 q217
  cases e217
  replace p217 := eq_true p217
  replace q217 := eq_true q217
  go_wp2
  go_roundg k1
  case measure => have := HK1.out; omega
  case rel => exact ⟨(wrap64 (x5_1 + 1)), (by rfl), H', ⟨by have := HK1.out; omega⟩, by repeat (first | exact Drawn0.refl _ | apply Drawn0.step)⟩
end Go.Proofs.YtfhffcefpnkllaaGreatDoor.P
namespace Go.Proofs.YtfhffcefpnkllaaGreatDoor.P
open Go.RowKit Go.Proofs.YtfhffcefpnkllaaGreatDoorW.PrintWords Go.Proofs.YtfhffcefpnkllaaGreatDoorW.PrintLast Go.Proofs.YtfhffcefpnkllaaGreatDoorW.PrintMore
attribute [local go_sem] max2_int min2_int max_two min_two max_three min_three max_four min_four
theorem eqA60 (d : Nat) (w : World) (x0 y0 : ByteArray) (x1 y1 : Int) (x2 y2 : Bool) :
    (Op.equalIn (d + 2) 60 (.agg #[.string x0, .int .i64 x1, .bool x2]) (.agg #[.string y0, .int .i64 y1, .bool y2])).run Tryz.prog w = .ok (x0.toList == y0.toList && (x1 == y1 && (x2 == y2))) w := by
  refine eqA_of Tryz.underlying60 (by kernel_rfl) ?_
  refine eqf_cons (by rfl) (by go_simp; rfl) (by go_simp; rfl) (by go_simp) ?_
  refine eqf_cons (by rfl) (by go_simp; rfl) (by go_simp; rfl) (by go_simp) ?_
  exact eqf_last (by rfl) (by go_simp; rfl) (by go_simp; rfl) (by go_simp)
end Go.Proofs.YtfhffcefpnkllaaGreatDoor.P
