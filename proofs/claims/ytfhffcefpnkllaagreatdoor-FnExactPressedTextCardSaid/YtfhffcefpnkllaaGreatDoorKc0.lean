/-
  Part 1 of what several laws reach in common: functions of the program, each with its contract, and plain lemmas.
  Conditions: those of the given statement, no others.
-/
import Derived.Test.YtfhffcefpnkllaaGreatDoorKcW0
import Derived.Test.YtfhffcefpnkllaaGreatDoorProg
import Derived.Below
import Derived.Deep.Draws
import Derived.Deep.AppendLies
import Derived.Maps.AppendAt
import Derived.OwnWalk
import Derived.Laws.BytesArg
import Derived.Laws.MakeOwn
import Derived.Laws.OwnMore
import Derived.Deep.OwnRows
import Derived.Tactics
import Derived.Lib.ConvBytes
import Derived.Laws.Slices
import Derived.WalkKit
import Derived.KernelRfl
import Derived.RowKit3
import Derived.Deep.LoopGhost
import Derived.Deep.QuietTactic
import Derived.BigQuiet
import Derived.WideLaws
import Derived.Deep.DeepCutAuto
import Derived.Deep.CutBlock
import Derived.Deep.RegionHeld3
import Derived.Laws.Rows
import Derived.Lib.AppendStr
import Derived.ArgAppend
import Derived.Laws.IdiomCopy
import Derived.OrdersHeld
import Derived.Laws.BitsLemmas
import Derived.RowKit
import Derived.Ground.NamesProg
import Derived.Shelf.Strings.SlTrimAscii
import Derived.Maps.OwnOps
import Derived.Maps.Views
import Derived.Shelf.Sort.Plain
import Derived.Shelf.Slices.In.SortNone
import Derived.Shelf.Slices.CompactS
import Derived.RangeFuncBox
import Derived.RangeFuncLeaves
import Derived.Shelf.Abstract
import Derived.OwnWalkIn
import Derived.TacticsInMore
import Derived.LoopNIn
import Derived.LoopIn
import Derived.Sort.OwnSorted
import Derived.Lib.OwnBridge
set_option linter.unusedVariables false
set_option linter.unusedSimpArgs false
set_option maxHeartbeats 8000000
set_option maxRecDepth 100000
namespace Go.Proofs.YtfhffcefpnkllaaGreatDoor.P
open Go.RowKit Go.Proofs.YtfhffcefpnkllaaGreatDoorW.PrintWords Go.Proofs.YtfhffcefpnkllaaGreatDoorW.PrintLast Go.Proofs.YtfhffcefpnkllaaGreatDoorW.PrintMore
attribute [local go_sem] max2_int min2_int max_two min_two max_three min_three max_four min_four
def errW : Option Int → Value
  | none => .nilIface
  | some c => .iface 0 (.int .i64 c)
theorem errW_none : errW none = .nilIface := rfl
theorem errW_some (c : Int) : errW (some c) = .iface 0 (.int .i64 c) := rfl
theorem info3 : (Tryz.prog.info? 3).map (fun i => (i.zero, i.size, i.bytes)) = some (some (.int .i64 0), 1, 8) := by kernel_rfl
theorem info5 : (Tryz.prog.info? 5).map (fun i => (i.zero, i.size, i.bytes)) = some (some (.int .u8 0), 1, 1) := by kernel_rfl
theorem info9 : (Tryz.prog.info? 9).map (fun i => (i.zero, i.size, i.bytes)) = some (some (.string ⟨#[]⟩), 1, 16) := by kernel_rfl
theorem info60 : (Tryz.prog.info? 60).map (fun i => (i.zero, i.size, i.bytes)) = some (some (.agg #[(.string ⟨#[]⟩), (.int .i64 0), (.bool false)]), 3, 32) := by kernel_rfl
theorem info76 : (Tryz.prog.info? 76).map (fun i => (i.zero, i.size, i.bytes)) = some (some (.agg #[(.int .i64 0), (.int .i64 0), (.bool false)]), 3, 24) := by kernel_rfl
structure S71 where
  f0 : ByteArray
  f1 : Int
  f2 : Bool
def z71 : S71 := ⟨(⟨#[]⟩ : ByteArray), (0 : Int), false⟩
def k71 : Kd S71 := Kd.iso (Kd.pair Kd.string (Kd.pair (Kd.int .i64) Kd.bool)) (fun x : S71 => (x.f0, x.f1, x.f2))
theorem k71_open {w : World} {x : S71} {cs : List Value} (h : k71.K w x cs) : cs = [.string x.f0, .int .i64 x.f1, .bool x.f2] := by
  obtain ⟨_, _, rfl, rfl, ⟨_, _, rfl, rfl, rfl⟩⟩ := h
  exact rfl
theorem k71_openM {w : World} {base : Nat} {ok : Nat → Prop} {x : S71} {cs : List Value} (h : k71.M w base ok x cs) : cs = [.string x.f0, .int .i64 x.f1, .bool x.f2] := by
  obtain ⟨_, _, rfl, rfl, ⟨_, _, rfl, rfl, rfl⟩⟩ := h
  exact rfl
theorem k71_mk (w : World) (x : S71)  : k71.K w x [.string x.f0, .int .i64 x.f1, .bool x.f2] := ⟨[.string x.f0], [.int .i64 x.f1, .bool x.f2], rfl, rfl, ⟨[.int .i64 x.f1], [.bool x.f2], rfl, rfl, rfl⟩⟩
theorem k71_mkM (w : World) (base : Nat) (ok : Nat → Prop) (x : S71)  : k71.M w base ok x [.string x.f0, .int .i64 x.f1, .bool x.f2] := ⟨[.string x.f0], [.int .i64 x.f1, .bool x.f2], rfl, rfl, ⟨[.int .i64 x.f1], [.bool x.f2], rfl, rfl, rfl⟩⟩
def rd_T71 (xs : List S71) (i : Int) : S71 := xs.getD i.toNat z71
theorem at_T71 {w : World} {A : Option Addr} {n : Nat} {xs : List S71} (h : Kd.C k71 w A n xs) (i : Int) (h0 : 0 ≤ i) (h1 : i < n) : ∃ ad , A = some ad ∧ w.cell? (ad.add (i.toNat * 3)) = some (.string (rd_T71 xs i).f0) ∧ w.cell? ⟨(ad.add (i.toNat * 3)).block, (ad.add (i.toNat * 3)).off + 1, none⟩ = some (.int .i64 (rd_T71 xs i).f1) ∧ w.cell? ⟨(ad.add (i.toNat * 3)).block, (ad.add (i.toNat * 3)).off + 2, none⟩ = some (.bool (rd_T71 xs i).f2) := by
  obtain ⟨ad, c, e, _, hK, hc0⟩ := Kd.C_get h z71 i h0 h1
  have hc : ∀ j u, c[j]? = some u → w.cell? (ad.add (i.toNat * 3 + j)) = some u := hc0
  obtain rfl := k71_open hK
  exact ⟨ad, e, hc 0 _ rfl, by rw [← add_field _ _ 1 (by omega)]; exact hc 1 _ rfl, by rw [← add_field _ _ 2 (by omega)]; exact hc 2 _ rfl⟩
structure S60 where
  f0 : ByteArray
  f1 : Int
  f2 : Bool
def z60 : S60 := ⟨(⟨#[]⟩ : ByteArray), (0 : Int), false⟩
def k60 : Kd S60 := Kd.iso (Kd.pair Kd.string (Kd.pair (Kd.int .i64) Kd.bool)) (fun x : S60 => (x.f0, x.f1, x.f2))
theorem k60_open {w : World} {x : S60} {cs : List Value} (h : k60.K w x cs) : cs = [.string x.f0, .int .i64 x.f1, .bool x.f2] := by
  obtain ⟨_, _, rfl, rfl, ⟨_, _, rfl, rfl, rfl⟩⟩ := h
  exact rfl
theorem k60_openM {w : World} {base : Nat} {ok : Nat → Prop} {x : S60} {cs : List Value} (h : k60.M w base ok x cs) : cs = [.string x.f0, .int .i64 x.f1, .bool x.f2] := by
  obtain ⟨_, _, rfl, rfl, ⟨_, _, rfl, rfl, rfl⟩⟩ := h
  exact rfl
theorem k60_mk (w : World) (x : S60)  : k60.K w x [.string x.f0, .int .i64 x.f1, .bool x.f2] := ⟨[.string x.f0], [.int .i64 x.f1, .bool x.f2], rfl, rfl, ⟨[.int .i64 x.f1], [.bool x.f2], rfl, rfl, rfl⟩⟩
theorem k60_mkM (w : World) (base : Nat) (ok : Nat → Prop) (x : S60)  : k60.M w base ok x [.string x.f0, .int .i64 x.f1, .bool x.f2] := ⟨[.string x.f0], [.int .i64 x.f1, .bool x.f2], rfl, rfl, ⟨[.int .i64 x.f1], [.bool x.f2], rfl, rfl, rfl⟩⟩
def rd_T60 (xs : List S60) (i : Int) : S60 := xs.getD i.toNat z60
theorem at_T60 {w : World} {A : Option Addr} {n : Nat} {xs : List S60} (h : Kd.C k60 w A n xs) (i : Int) (h0 : 0 ≤ i) (h1 : i < n) : ∃ ad , A = some ad ∧ w.cell? (ad.add (i.toNat * 3)) = some (.string (rd_T60 xs i).f0) ∧ w.cell? ⟨(ad.add (i.toNat * 3)).block, (ad.add (i.toNat * 3)).off + 1, none⟩ = some (.int .i64 (rd_T60 xs i).f1) ∧ w.cell? ⟨(ad.add (i.toNat * 3)).block, (ad.add (i.toNat * 3)).off + 2, none⟩ = some (.bool (rd_T60 xs i).f2) := by
  obtain ⟨ad, c, e, _, hK, hc0⟩ := Kd.C_get h z60 i h0 h1
  have hc : ∀ j u, c[j]? = some u → w.cell? (ad.add (i.toNat * 3 + j)) = some u := hc0
  obtain rfl := k60_open hK
  exact ⟨ad, e, hc 0 _ rfl, by rw [← add_field _ _ 1 (by omega)]; exact hc 1 _ rfl, by rw [← add_field _ _ 2 (by omega)]; exact hc 2 _ rfl⟩
structure S76 where
  f0 : Int
  f1 : Int
  f2 : Bool
def z76 : S76 := ⟨(0 : Int), (0 : Int), false⟩
def k76 : Kd S76 := Kd.iso (Kd.pair (Kd.int .i64) (Kd.pair (Kd.int .i64) Kd.bool)) (fun x : S76 => (x.f0, x.f1, x.f2))
theorem k76_open {w : World} {x : S76} {cs : List Value} (h : k76.K w x cs) : cs = [.int .i64 x.f0, .int .i64 x.f1, .bool x.f2] := by
  obtain ⟨_, _, rfl, rfl, ⟨_, _, rfl, rfl, rfl⟩⟩ := h
  exact rfl
theorem k76_openM {w : World} {base : Nat} {ok : Nat → Prop} {x : S76} {cs : List Value} (h : k76.M w base ok x cs) : cs = [.int .i64 x.f0, .int .i64 x.f1, .bool x.f2] := by
  obtain ⟨_, _, rfl, rfl, ⟨_, _, rfl, rfl, rfl⟩⟩ := h
  exact rfl
theorem k76_mk (w : World) (x : S76)  : k76.K w x [.int .i64 x.f0, .int .i64 x.f1, .bool x.f2] := ⟨[.int .i64 x.f0], [.int .i64 x.f1, .bool x.f2], rfl, rfl, ⟨[.int .i64 x.f1], [.bool x.f2], rfl, rfl, rfl⟩⟩
theorem k76_mkM (w : World) (base : Nat) (ok : Nat → Prop) (x : S76)  : k76.M w base ok x [.int .i64 x.f0, .int .i64 x.f1, .bool x.f2] := ⟨[.int .i64 x.f0], [.int .i64 x.f1, .bool x.f2], rfl, rfl, ⟨[.int .i64 x.f1], [.bool x.f2], rfl, rfl, rfl⟩⟩
def rd_T76 (xs : List S76) (i : Int) : S76 := xs.getD i.toNat z76
theorem at_T76 {w : World} {A : Option Addr} {n : Nat} {xs : List S76} (h : Kd.C k76 w A n xs) (i : Int) (h0 : 0 ≤ i) (h1 : i < n) : ∃ ad , A = some ad ∧ w.cell? (ad.add (i.toNat * 3)) = some (.int .i64 (rd_T76 xs i).f0) ∧ w.cell? ⟨(ad.add (i.toNat * 3)).block, (ad.add (i.toNat * 3)).off + 1, none⟩ = some (.int .i64 (rd_T76 xs i).f1) ∧ w.cell? ⟨(ad.add (i.toNat * 3)).block, (ad.add (i.toNat * 3)).off + 2, none⟩ = some (.bool (rd_T76 xs i).f2) := by
  obtain ⟨ad, c, e, _, hK, hc0⟩ := Kd.C_get h z76 i h0 h1
  have hc : ∀ j u, c[j]? = some u → w.cell? (ad.add (i.toNat * 3 + j)) = some u := hc0
  obtain rfl := k76_open hK
  exact ⟨ad, e, hc 0 _ rfl, by rw [← add_field _ _ 1 (by omega)]; exact hc 1 _ rfl, by rw [← add_field _ _ 2 (by omega)]; exact hc 2 _ rfl⟩
def rd_L7 (xs : List (List ByteArray)) (i : Int) : (List ByteArray) := xs.getD i.toNat ([] : List ByteArray)
theorem at_L7 {w : World} {A : Option Addr} {n : Nat} {xs : List (List ByteArray)} (h : Kd.C (Kd.slice 9 Kd.string) w A n xs) (i : Int) (h0 : 0 ≤ i) (h1 : i < n) : ∃ ad A0 c0, A = some ad ∧ w.cell? (ad.add i.toNat) = some (.slice A0 (rd_L7 xs i).length c0) ∧ (rd_L7 xs i).length ≤ c0 ∧ Kd.string.C w A0 (rd_L7 xs i).length (rd_L7 xs i) := by
  obtain ⟨ad, c, e, _, hK, hc0⟩ := Kd.C_get h ([] : List ByteArray) i h0 h1
  have hc : ∀ j u, c[j]? = some u → w.cell? (ad.add (i.toNat * 1 + j)) = some u := hc0
  obtain ⟨A0, c0, rfl, l0, g0⟩ := hK
  exact ⟨ad, A0, c0, e, by have hq := hc 0 _ rfl; rwa [Nat.mul_one, Nat.add_zero] at hq, l0, g0⟩
def rd_L8 (xs : List (List S76)) (i : Int) : (List S76) := xs.getD i.toNat ([] : List S76)
theorem at_L8 {w : World} {A : Option Addr} {n : Nat} {xs : List (List S76)} (h : Kd.C (Kd.slice 76 k76) w A n xs) (i : Int) (h0 : 0 ≤ i) (h1 : i < n) : ∃ ad A0 c0, A = some ad ∧ w.cell? (ad.add i.toNat) = some (.slice A0 (rd_L8 xs i).length c0) ∧ (rd_L8 xs i).length ≤ c0 ∧ k76.C w A0 (rd_L8 xs i).length (rd_L8 xs i) := by
  obtain ⟨ad, c, e, _, hK, hc0⟩ := Kd.C_get h ([] : List S76) i h0 h1
  have hc : ∀ j u, c[j]? = some u → w.cell? (ad.add (i.toNat * 1 + j)) = some u := hc0
  obtain ⟨A0, c0, rfl, l0, g0⟩ := hK
  exact ⟨ad, A0, c0, e, by have hq := hc 0 _ rfl; rwa [Nat.mul_one, Nat.add_zero] at hq, l0, g0⟩
structure S36 where
  f0 : (List S76)
def z36 : S36 := ⟨([] : List S76)⟩
def k36 : Kd S36 := Kd.iso (Kd.slice 76 k76) (fun x : S36 => x.f0)
theorem k36_open {w : World} {x : S36} {cs : List Value} (h : k36.K w x cs) : ∃ A0 c0, cs = [.slice A0 x.f0.length c0] ∧ x.f0.length ≤ c0 ∧ k76.C w A0 x.f0.length x.f0 := by
  obtain ⟨A0, c0, rfl, l0, g0⟩ := h
  exact ⟨A0, c0, rfl, l0, g0⟩
theorem k36_openM {w : World} {base : Nat} {ok : Nat → Prop} {x : S36} {cs : List Value} (h : k36.M w base ok x cs) : ∃ v0, cs = [v0] ∧ k76.R 76 w base ok v0 x.f0 := by
  obtain ⟨v0, rfl, g0⟩ := h
  exact ⟨v0, rfl, g0⟩
theorem k36_mk (w : World) (x : S36) {A0 : Option Addr} {c0 : Nat} (l0 : x.f0.length ≤ c0) (g0 : k76.C w A0 x.f0.length x.f0) : k36.K w x [.slice A0 x.f0.length c0] := ⟨A0, c0, rfl, l0, g0⟩
theorem k36_mkM (w : World) (base : Nat) (ok : Nat → Prop) (x : S36) {v0 : Value} (g0 : k76.R 76 w base ok v0 x.f0) : k36.M w base ok x [v0] := ⟨v0, rfl, g0⟩
def rd_T36 (xs : List S36) (i : Int) : S36 := xs.getD i.toNat z36
theorem at_T36 {w : World} {A : Option Addr} {n : Nat} {xs : List S36} (h : Kd.C k36 w A n xs) (i : Int) (h0 : 0 ≤ i) (h1 : i < n) : ∃ ad A0 c0, A = some ad ∧ w.cell? (ad.add i.toNat) = some (.slice A0 (rd_T36 xs i).f0.length c0) ∧ (rd_T36 xs i).f0.length ≤ c0 ∧ k76.C w A0 (rd_T36 xs i).f0.length (rd_T36 xs i).f0 := by
  obtain ⟨ad, c, e, _, hK, hc0⟩ := Kd.C_get h z36 i h0 h1
  have hc : ∀ j u, c[j]? = some u → w.cell? (ad.add (i.toNat * 1 + j)) = some u := hc0
  obtain ⟨A0, c0, rfl, l0, g0⟩ := k36_open hK
  exact ⟨ad, A0, c0, e, by have hq := hc 0 _ rfl; rwa [Nat.mul_one, Nat.add_zero] at hq, l0, g0⟩
end Go.Proofs.YtfhffcefpnkllaaGreatDoor.P
namespace Go.Proofs.YtfhffcefpnkllaaGreatDoor.P
open Go.RowKit Go.Proofs.YtfhffcefpnkllaaGreatDoorW.PrintWords Go.Proofs.YtfhffcefpnkllaaGreatDoorW.PrintLast Go.Proofs.YtfhffcefpnkllaaGreatDoorW.PrintMore
open Go.Proofs.YtfhffcefpnkllaaGreatDoorW.PrintWords renaming blk_frozen → bF_, blk_cell → bC_, below_set → bS_, blk_below → bB_, below_step → bT_, pw_below_drewN → bN_, below_size → bZ_, below_drew1 → bD_, below_alloc → bA_, blk_far → bR_, gate_callee → gC_, gate_dst → gD_, box_event → bE_, blk_drew → b1_, blk_put → bP_, blk_drewN → b2_, blk_alloc → b3_, blk_lt → bL_, cell_far → cF_
open Go.Proofs.YtfhffcefpnkllaaGreatDoorW.PrintLast renaming any_of → aO_, i64_w → i6_, i32_w → i3_, take_ofW → tW_
open Go.Proofs.YtfhffcefpnkllaaGreatDoorW.PrintWords.Kd renaming R_below → kB_, R_mono → kM_, R_far → kF_, R_reads' → kR_, R_types → kT_, R_slice → kS_, R_celln → kC_, R_alloc → k1_, R_drewN → k2_, R_drew → k3_, C_below → k4_, R_lower → k5_, R_ne → k6_, own_blk → k7_
open Go.Proofs.YtfhffcefpnkllaaGreatDoorW.PrintWords.LeO renaming none → l0_, bind → l1_, ite → l2_, refl → l3_
open World renaming block_lt_of_cell? → wB_
open _root_.Option renaming bind_eq_some_iff → oB_
open _root_.ByteArray renaming empty → eB_
open List renaming setIfInBounds_toArray → sA_, set_cons_zero → sB_, set_cons_succ → sC_, map_toArray → sD_, map_cons → sE_, map_nil → sF_, length_drop → sG_, length_take → sH_
open Bool renaming true → ty, false → fy
open Aside0 renaming mk → aM_
attribute [local go_sem] max2_int min2_int max_two min_two max_three min_three max_four min_four
def laws_toBranch.f (a0_0 : ByteArray) (a0_1 : Int) (a0_2 : Bool) : Option (ByteArray × Int × Bool) := some (a0_0, a0_1, a0_2)
theorem laws_toBranch.calls (a0_0 : ByteArray) (a0_1 : Int) (a0_2 : Bool) (r1 : ByteArray) (r2 : Int) (r3 : Bool) (w : World) (h : laws_toBranch.f a0_0 a0_1 a0_2 = some (r1, r2, r3)) :
  Calls Tryz.prog 60 #[.agg #[.string a0_0, .int .i64 a0_1, .bool a0_2]] w fun e w' => e = .returned (.agg #[.string r1, .int .i64 r2, .bool r3]) ∧ Below w.heap.size w w' := by
 have hu71 := Tryz.underlying71
 have hu60 := Tryz.underlying60
 have HB := aM_ (Below.refl w.heap.size w)
 have H : (some (a0_0, a0_1, a0_2)) = some (r1, r2, r3) := h
 clear h
 simp only [Option.some.injEq, Prod.mk.injEq] at H
 obtain ⟨rfl, rfl, rfl⟩ := H
 go_enter Tryz.func60, Tryz.ntmps60
 go_wp2_with (first | ((with_reducible refine gD_ (N := 1) rfl ?_); refine bE_ ?hg (N := 1) ?hd (cs := #[.string a0_0, .int .i64 a0_1, .bool a0_2]) (t := 71) ?hr ?_; (case hd => rfl); (case hg => rfl); (case hr => (go_simp; done)); intro gb289 hg w2 hbox hb; have BK289 := aM_ (hbox); have GW289 := aM_ ((by rw [hg]; exact (bZ_ HB.out) : w.heap.size ≤ gb289)); have GE289 := GW289; replace HB := aM_ (bT_ HB.out hb); clear hb hbox hg) | ((with_reducible refine gD_ (N := 2) rfl ?_); refine bE_ ?hg (N := 2) ?hd (cs := #[.string (⟨#[]⟩ : ByteArray), .int .i64 0, .bool false]) (t := 60) ?hr ?_; (case hd => rfl); (case hg => rfl); (case hr => (go_simp; done)); intro gb290 hg w3 hbox hb; have BK290 := aM_ (hbox); have GW290 := aM_ ((by rw [hg]; exact (bZ_ HB.out) : w.heap.size ≤ gb290)); have GE290 := GW290; replace HB := aM_ (bT_ HB.out hb); have NB289_290 := aM_ ((by rw [hg]; exact Nat.ne_of_lt (bL_ BK289.out) : gb289 ≠ gb290)); have NB290_289 := aM_ NB289_290.out.symm; replace BK289 := aM_ (bB_ BK289.out hb); clear hb hbox hg) | ((with_reducible refine gD_ (N := 3) rfl ?_); refine bE_ ?hg (N := 3) ?hd (cs := #[.string (⟨#[]⟩ : ByteArray), .int .i64 0, .bool false]) (t := 60) ?hr ?_; (case hd => rfl); (case hg => rfl); (case hr => (go_simp; done)); intro gb291 hg w4 hbox hb; have BK291 := aM_ (hbox); have GW291 := aM_ ((by rw [hg]; exact (bZ_ HB.out) : w.heap.size ≤ gb291)); have GE291 := GW291; replace HB := aM_ (bT_ HB.out hb); have NB289_291 := aM_ ((by rw [hg]; exact Nat.ne_of_lt (bL_ BK289.out) : gb289 ≠ gb291)); have NB291_289 := aM_ NB289_291.out.symm; replace BK289 := aM_ (bB_ BK289.out hb); have NB290_291 := aM_ ((by rw [hg]; exact Nat.ne_of_lt (bL_ (g := gb290) (o := .cells #[.string (⟨#[]⟩ : ByteArray), .int .i64 0, .bool false] 60 (0, 0)) BK290.out) : gb290 ≠ gb291)); have NB291_290 := aM_ NB290_291.out.symm; replace BK290 := aM_ (bB_ (g := gb290) (o := .cells #[.string (⟨#[]⟩ : ByteArray), .int .i64 0, .bool false] 60 (0, 0)) BK290.out hb); clear hb hbox hg; have hnb5 := NB289_290.out; have hnc5 := NB290_289.out; have hnb6 := NB289_291.out; have hnc6 := NB291_289.out; have hcz7_0 : w4.cell? ⟨gb289, 0, none⟩ = some (.string a0_0) := (bC_ BK289.out 0).trans rfl; have hcz7_1 : w4.cell? ⟨gb289, 1, none⟩ = some (.int .i64 a0_1) := (bC_ BK289.out 1).trans rfl; have hcz7_2 : w4.cell? ⟨gb289, 2, none⟩ = some (.bool a0_2) := (bC_ BK289.out 2).trans rfl; have hfz7_0 := bF_ BK289.out 0; have hfz7_1 := bF_ BK289.out 1; have hfz7_2 := bF_ BK289.out 2; have hnb8 := NB291_290.out; have hnc8 := NB290_291.out; have hcz9_0 : w4.cell? ⟨gb291, 0, none⟩ = some (.string (⟨#[]⟩ : ByteArray)) := (bC_ BK291.out 0).trans rfl; have hcz9_1 : w4.cell? ⟨gb291, 1, none⟩ = some (.int .i64 0) := (bC_ BK291.out 1).trans rfl; have hcz9_2 : w4.cell? ⟨gb291, 2, none⟩ = some (.bool false) := (bC_ BK291.out 2).trans rfl; have hfz9_0 := bF_ BK291.out 0; have hfz9_1 := bF_ BK291.out 1; have hfz9_2 := bF_ BK291.out 2; have hcz10_0 : w4.cell? ⟨gb290, 0, none⟩ = some (.string (⟨#[]⟩ : ByteArray)) := (bC_ BK290.out 0).trans rfl; have hcz10_1 : w4.cell? ⟨gb290, 1, none⟩ = some (.int .i64 0) := (bC_ BK290.out 1).trans rfl; have hcz10_2 : w4.cell? ⟨gb290, 2, none⟩ = some (.bool false) := (bC_ BK290.out 2).trans rfl; have hfz10_0 := bF_ BK290.out 0; have hfz10_1 := bF_ BK290.out 1; have hfz10_2 := bF_ BK290.out 2))
 refine bodyPost_ret (results_cell_row rfl _ _ gb290 60 #[.string a0_0, .int .i64 a0_1, .bool a0_2] (0, 0) _ rfl (by refine bP_ (cs := #[.string a0_0, .int .i64 a0_1, .bool false]) ?_ 2 _ rfl; refine bP_ (cs := #[.string a0_0, .int .i64 0, .bool false]) ?_ 1 _ rfl; refine bP_ (cs := #[.string (⟨#[]⟩ : ByteArray), .int .i64 0, .bool false]) ?_ 0 _ rfl; refine bR_ ?_ NB290_291.out _; refine bR_ ?_ NB290_291.out _; refine bR_ ?_ NB290_291.out _; exact BK290.out) Tryz.underlying60 rfl (by kernel_rfl)) rfl ?_
 exact ⟨by rfl, by repeat (first | (with_reducible first | exact HB.out | apply bA_ | apply bN_ | apply bD_ | refine bS_ ?_ GE289.out | refine bS_ ?_ GE290.out | refine bS_ ?_ GE291.out) | exact HB.out)⟩
def laws_toBranchS.l0 : Nat → List (S71) → List (S60) → Int → Option ((List (S60)))
 | 0, _, _, _ => none
 | k + 1, x0, x3, x4 => if x4 < (x0.length : Int) then (if 0 ≤ x4 then ((laws_toBranch.f ((rd_T71 x0 x4).f0) ((rd_T71 x0 x4).f1) ((rd_T71 x0 x4).f2)).bind fun bt296 => (if x4 < (x3.length : Int) then (laws_toBranchS.l0 k x0 (x3.set (x4 : Int).toNat (⟨bt296.1, bt296.2.1, bt296.2.2⟩ : S60)) (wrap64 (x4 + 1))) else (none))) else (none)) else (some x3)
def laws_toBranchS.f (k : Nat) (l0 : List (S71)) : Option ((List (S60))) := if 0 ≤ (l0.length : Int) then (if ((l0.length : Int) : Int).toNat ≤ 8796093022208 then (laws_toBranchS.l0 k l0 (List.replicate ((l0.length : Int) : Int).toNat z60) 0) else (none)) else (none)
theorem laws_toBranchS.mono_l : ∀ k, (∀ y0 y1 y2, LeO (laws_toBranchS.l0 k y0 y1 y2) (laws_toBranchS.l0 (k + 1) y0 y1 y2))
 | 0 => fun _ _ _ r h => by simp [laws_toBranchS.l0] at h
 | k + 1 => by
  have ih0 := laws_toBranchS.mono_l k
  ·
   intro y0 y1 y2
   unfold laws_toBranchS.l0
   repeat' first
   | (with_reducible exact ih0 _ _ _)
   | (with_reducible exact l3_ _)
   | (with_reducible exact l0_ _)
   | (with_reducible refine l2_ ?_ ?_)
   | (with_reducible refine l1_ ?_ (fun _ => ?_))
   | exact ih0 _ _ _
   | exact l0_ _
   | refine l2_ ?_ ?_
   | refine l1_ ?_ (fun _ => ?_)
theorem laws_toBranchS.mono : ∀ a0 k, LeO (laws_toBranchS.f k a0) (laws_toBranchS.f (k + 1) a0) := by
 intro a0 k
 have ih0 := laws_toBranchS.mono_l k
 unfold laws_toBranchS.f
 repeat' first
   | (with_reducible exact ih0 _ _ _)
   | (with_reducible exact l3_ _)
   | (with_reducible exact l0_ _)
   | (with_reducible refine l2_ ?_ ?_)
   | (with_reducible refine l1_ ?_ (fun _ => ?_))
   | exact ih0 _ _ _
   | exact l0_ _
   | refine l2_ ?_ ?_
   | refine l1_ ?_ (fun _ => ?_)
theorem laws_toBranchS.calls (k : Nat) (A0 : Option Addr) (c0 : Nat) (l0 : List (S71)) (r : List (S60)) (w : World) (hr0 : Kd.C k71 w A0 l0.length l0) (hc0 : l0.length ≤ c0) (h : laws_toBranchS.f k l0 = some r) :
  Calls Tryz.prog 32 #[.slice A0 l0.length c0] w fun e w' => ∃ v0_ : Value, e = .returned (v0_) ∧ Kd.R k60 60 w' w.heap.size (fun _ => True) v0_ r ∧ Below w.heap.size w w' := by
 have hu71 := Tryz.underlying71
 have hu60 := Tryz.underlying60
 have HR0 := aM_ hr0
 have HC0 := aM_ hc0
 clear hr0 hc0
 have HB := aM_ (Below.refl w.heap.size w)
 have H : (if 0 ≤ (l0.length : Int) then (if ((l0.length : Int) : Int).toNat ≤ 8796093022208 then (laws_toBranchS.l0 k l0 (List.replicate ((l0.length : Int) : Int).toNat z60) 0) else (none)) else (none)) = some r := h
 clear h
 by_cases c2 : 0 ≤ (l0.length : Int)
 rotate_left
 ·
  rw [if_neg c2] at H
  exact absurd H (by simp)
 rw [if_pos c2] at H
 have c2b0 := eq_true c2
 have c2b1 := decide_eq_true c2
 clear c2
 by_cases c3 : ((l0.length : Int) : Int).toNat ≤ 8796093022208
 rotate_left
 ·
  rw [if_neg c3] at H
  exact absurd H (by simp)
 rw [if_pos c3] at H
 have c3b0 := eq_true c3
 have c3b1 := decide_eq_true c3
 clear c3
 obtain ⟨y292, hy292⟩ : ∃ y_ : List (S60), y_ = (List.replicate ((l0.length : Int) : Int).toNat z60) := ⟨_, rfl⟩
 replace H : (laws_toBranchS.l0 k l0 y292 0) = some r := by first | (rw [hy292]; with_reducible exact H) | (have H2_ := (Option.bind_some _ _).symm.trans H; rw [hy292]; with_reducible exact H2_) | (have H2_ := (Option.bind_some _ _).symm.trans H; with_reducible exact H2_) | with_reducible exact H | (rw [hy292]; exact H) | exact H
 have Ny292 := aM_ hy292
 clear hy292
 have H' := aM_ H
 clear H
 go_enter Tryz.func32, Tryz.ntmps32
 go_wp2_with (first | ((with_reducible refine gD_ (N := 7) rfl ?_); refine Kd.R_make k60 _ 60 rfl (N := 7) rfl 28 _ _ rfl (l0.length : Int) rfl rfl Tryz.underlying28 (.agg #[(.string ⟨#[]⟩), (.int .i64 0), (.bool false)]) 32 info60 rfl (by decide) (by omega) z60 (ok := fun _ => True) (okp := fun _ => True) (k60_mkM _ _ _ z60 ) (fun _ hk => hk) trivial (of_decide_eq_true (by (with_reducible assumption))) (Nat.le_trans (Nat.mul_le_mul_right _ (of_decide_eq_true (by (with_reducible assumption)) : (l0.length : Int).toNat ≤ 8796093022208)) (by omega)) (Below.refl _ _) (Nat.le_refl _) ?_; intro v293 w4 ho5 hb hg_ hnew_; clear hg_ hnew_; (rw [← Ny292.out] at ho5); have HO294 := aM_ (k5_ ho5 (bZ_ HB.out)); replace HB := aM_ (bT_ HB.out hb); clear hb ho5))
 go_loopg [4] k (fun kq v4 w' => ∃ (x3_1 : List (S60)) (x4_1 : Int), v4 = .int .i64 x4_1 ∧ Aside0 (laws_toBranchS.l0 kq l0 x3_1 x4_1 = some r) ∧ Aside0 (kq ≤ k) ∧ Aside0 (Kd.R k60 60 w' w.heap.size (fun _ => True) v293 x3_1) ∧ Aside0 (Below w.heap.size w w'))
 case atStart => exact ⟨(y292), (0), (by rfl), H', ⟨Nat.le_refl _⟩, ⟨HO294.out⟩, ⟨HB.out⟩⟩
 case round =>
  clear H'
  try clear c2b0
  try clear c2b1
  try clear p2
  try clear c3b0
  try clear c3b1
  obtain ⟨x3_1, x4_1, rfl, HA, HK1, HO_3, HB⟩ := hrel
  cases gk with
  | zero => exact absurd HA.out (by simp [laws_toBranchS.l0])
  | succ k1 =>
   have H := HA.out
   clear HA
   simp only [laws_toBranchS.l0] at H
   by_cases c6 : x4_1 < (l0.length : Int)
   ·
    rw [if_pos c6] at H
    have c6b0 := decide_eq_true c6
    clear c6
    by_cases c7 : 0 ≤ x4_1
    ·
     rw [if_pos c7] at H
     have c7b0 := decide_eq_true c7
     clear c7
     replace H := oB_.mp H
     obtain ⟨⟨t296, t297, t298⟩, A80, H⟩ := H
     try dsimp only at H
     have A8 := aM_ A80
     clear A80
     by_cases c9 : x4_1 < (x3_1.length : Int)
     ·
      rw [if_pos c9] at H
      have c9b0 := decide_eq_true c9
      clear c9
      obtain ⟨y299, hy299⟩ : ∃ y_ : List (S60), y_ = (x3_1.set (x4_1 : Int).toNat (⟨t296, t297, t298⟩ : S60)) := ⟨_, rfl⟩
      replace H : (laws_toBranchS.l0 k1 l0 y299 (wrap64 (x4_1 + 1))) = some r := by first | (rw [hy299]; with_reducible exact H) | (have H2_ := (Option.bind_some _ _).symm.trans H; rw [hy299]; with_reducible exact H2_) | (have H2_ := (Option.bind_some _ _).symm.trans H; with_reducible exact H2_) | with_reducible exact H | (rw [hy299]; exact H) | exact H
      have Ny299 := aM_ hy299
      clear hy299
      have H' := aM_ H
      clear H
      have p295 : 0 ≤ (x4_1 : Int) := of_decide_eq_true (by (with_reducible assumption))
      have q295 : x4_1 < (l0.length : Int) := of_decide_eq_true (by (with_reducible assumption))
      obtain ⟨ad295, e295, hx295_0, hx295_1, hx295_2⟩ := at_T71 HR0.out x4_1 p295 q295
      cases e295
      replace hx295_0 := (HB.out.cell (wB_ w _ hx295_0)).trans hx295_0
      replace hx295_1 := (HB.out.cell (wB_ w _ hx295_1)).trans hx295_1
      replace hx295_2 := (HB.out.cell (wB_ w _ hx295_2)).trans hx295_2
      replace p295 := eq_true p295
      replace q295 := eq_true q295
      go_wp2_with (first | ((with_reducible refine gC_ (f := 60) rfl ?_); refine goesL_ (some 20) rfl rfl Tryz.func60 (by kernel_rfl) rfl #[.agg #[.string ((rd_T71 l0 x4_1).f0), .int .i64 ((rd_T71 l0 x4_1).f1), .bool ((rd_T71 l0 x4_1).f2)]] rfl (by (try simp only [sD_, sE_, sF_]); rfl) ?_; (with_reducible refine (laws_toBranch.calls ((rd_T71 l0 x4_1).f0) ((rd_T71 l0 x4_1).f1) ((rd_T71 l0 x4_1).f2) t296 t297 t298 _ A8.out).mono ?_); rintro e w11 ⟨rfl, hb⟩; refine ⟨_, rfl, ?_⟩; replace HO_3 := aM_ (kB_ HO_3.out hb); replace HB := aM_ (bT_ HB.out hb); (try clear hb); have p10 : 0 ≤ (x4_1 : Int) := of_decide_eq_true (by (with_reducible assumption)); have q10 : (x4_1 : Int) < ((x3_1.length : Int) : Int) := of_decide_eq_true (by (with_reducible assumption)); obtain ⟨go10, co10, eo10, gb10, gl10, cl10, HG10⟩ := Kd.R_form HO_3.out (by omega); (cases eo10); have GB10 := aM_ gb10; have GG10 := aM_ HG10; clear gb10 gl10 HG10; obtain ⟨ce10, hcl10, hM10, hcc10, hfr10⟩ := Kd.R_elem HO_3.out z60 (x4_1 : Int) p10 q10; obtain rfl := k60_openM hM10; have hx10_0 : w11.cell? ⟨go10, (x4_1 : Int).toNat * 3, none⟩ = some (.string ((rd_T60 x3_1 x4_1).f0)) := hcc10 0 _ rfl; have hx10_1 : w11.cell? ⟨go10, (x4_1 : Int).toNat * 3 + 1, none⟩ = some (.int .i64 ((rd_T60 x3_1 x4_1).f1)) := hcc10 1 _ rfl; have hx10_2 : w11.cell? ⟨go10, (x4_1 : Int).toNat * 3 + 2, none⟩ = some (.bool ((rd_T60 x3_1 x4_1).f2)) := hcc10 2 _ rfl; have hf10_0 : w11.frozen? ⟨go10, (x4_1 : Int).toNat * 3, none⟩ = false := hfr10 0; have hf10_1 : w11.frozen? ⟨go10, (x4_1 : Int).toNat * 3 + 1, none⟩ = false := hfr10 1; have hf10_2 : w11.frozen? ⟨go10, (x4_1 : Int).toNat * 3 + 2, none⟩ = false := hfr10 2; clear hcl10 hcc10 hfr10 hM10; replace p10 := eq_true p10; replace q10 := eq_true q10; have HX12 := aM_ (show Kd.R k60 60 w11 w.heap.size (fun _ => True) (.slice (some ⟨go10, 0, none⟩) x3_1.length co10) x3_1 from HO_3.out); obtain ⟨ce12, hcl12, hM12, hcc12, hfr12⟩ := Kd.R_elem HX12.out z60 (x4_1 : Int) (of_decide_eq_true (by (with_reducible assumption))) (by have h_ : (x4_1 : Int) < ((x3_1.length : Int) : Int) := of_decide_eq_true (by (with_reducible assumption)); exact h_); obtain rfl := k60_openM hM12; have HP12 := Kd.R_seg HX12.out (x4_1 : Int) (of_decide_eq_true (by (with_reducible assumption))) (by have h_ : (x4_1 : Int) < ((x3_1.length : Int) : Int) := of_decide_eq_true (by (with_reducible assumption)); exact h_) (seg := [.string t296, .int .i64 t297, .bool t298]) (j := 0) hcl12 hcc12 (show 3 ≤ 3 from by decide) (x' := (⟨t296, t297, t298⟩ : S60)) (k60_mkM _ _ _ (⟨t296, t297, t298⟩ : S60) ) (fun _ hk => hk); have hx12_0 := hcc12 0 _ rfl; (try simp only [show (k60).sz = 3 from rfl, Nat.mul_one, Nat.add_zero] at hx12_0); have hf12_0 := hfr12 0; (try simp only [show (k60).sz = 3 from rfl, Nat.mul_one, Nat.add_zero] at hf12_0); have hx12_1 := hcc12 1 _ rfl; (try simp only [show (k60).sz = 3 from rfl, Nat.mul_one, Nat.add_zero] at hx12_1); have hf12_1 := hfr12 1; (try simp only [show (k60).sz = 3 from rfl, Nat.mul_one, Nat.add_zero] at hf12_1); have hx12_2 := hcc12 2 _ rfl; (try simp only [show (k60).sz = 3 from rfl, Nat.mul_one, Nat.add_zero] at hx12_2); have hf12_2 := hfr12 2; (try simp only [show (k60).sz = 3 from rfl, Nat.mul_one, Nat.add_zero] at hf12_2); clear hcl12 hcc12 hfr12 hM12) | ((with_reducible refine gate_store (t := 60) (p := 21) rfl ?_); refine store_event (t := 60) (p := 21) (v := ?vo_w13) (w1 := (((w11.setCell ⟨go10, (x4_1 : Int).toNat * 3, none⟩ (.string t296)).setCell ⟨go10, (x4_1 : Int).toNat * 3 + 1, none⟩ (.int .i64 t297)).setCell ⟨go10, (x4_1 : Int).toNat * 3 + 2, none⟩ (.bool t298))) ?hg ?ho ?hn ?hr ?_; (case ho => rfl); (case hg => rfl); (case hn => rfl); (case hr => (go_simp; done)); intro w13 hw; have hg : w11.grownBy w13 (some go10) := (by rw [hw]; exact HP12.2); have hp_ : Kd.R k60 60 w13 w.heap.size (fun _ => True) (.slice (some ⟨go10, 0, none⟩) x3_1.length co10) y299 := (by rw [hw, Ny299.out]; exact HP12.1); clear HP12; replace HO_3 := aM_ (hp_); replace HB := aM_ ((by rw [hw]; exact bS_ (bS_ (bS_ (HB.out) GB10.out) GB10.out) GB10.out : Below w.heap.size w w13)); clear hg hw hp_))
      go_roundg k1
      case measure => have := HK1.out; omega
      case rel => exact ⟨(y299), (wrap64 (x4_1 + 1)), (by rfl), H', ⟨by have := HK1.out; omega⟩, ⟨HO_3.out⟩, ⟨HB.out⟩⟩
     ·
      rw [if_neg c9] at H
      exact absurd H (by simp)
    ·
     rw [if_neg c7] at H
     exact absurd H (by simp)
   ·
    rw [if_neg c6] at H
    have c6b0 := decide_eq_false c6
    clear c6
    obtain rfl := Option.some.inj H
    go_wp2
    go_ret
    exact ⟨_, by rfl, by exact HO_3.out, by exact HB.out⟩
def laws_toPressed.f (k : Nat) (l0_0 : List (S71)) : Option ((List (S60))) := (laws_toBranchS.f k l0_0).bind fun t303 => (some t303)
theorem laws_toPressed.mono : ∀ a0 k, LeO (laws_toPressed.f k a0) (laws_toPressed.f (k + 1) a0) := by
 intro a0 k
 unfold laws_toPressed.f
 repeat' first
   | (with_reducible exact laws_toBranchS.mono _ _)
   | (with_reducible exact l3_ _)
   | (with_reducible exact l0_ _)
   | (with_reducible refine l2_ ?_ ?_)
   | (with_reducible refine l1_ ?_ (fun _ => ?_))
   | exact laws_toBranchS.mono _ _
   | exact l0_ _
   | refine l2_ ?_ ?_
   | refine l1_ ?_ (fun _ => ?_)
theorem laws_toPressed.calls (k : Nat) (A0_0 : Option Addr) (c0_0 : Nat) (l0_0 : List (S71)) (r : List (S60)) (w : World) (hr0_0 : Kd.C k71 w A0_0 l0_0.length l0_0) (hc0_0 : l0_0.length ≤ c0_0) (h : laws_toPressed.f k l0_0 = some r) :
  Calls Tryz.prog 10 #[.agg #[.slice A0_0 l0_0.length c0_0]] w fun e w' => ∃ v0_ : Value, e = .returned (.agg #[v0_]) ∧ Kd.R k60 60 w' w.heap.size (fun _ => True) v0_ r ∧ Below w.heap.size w w' := by
 have hu24 := Tryz.underlying24
 have hu30 := Tryz.underlying30
 have HR0_0 := aM_ hr0_0
 have HC0_0 := aM_ hc0_0
 clear hr0_0 hc0_0
 have HB := aM_ (Below.refl w.heap.size w)
 have H : ((laws_toBranchS.f k l0_0).bind fun t303 => (some t303)) = some r := h
 clear h
 replace H := oB_.mp H
 obtain ⟨t303, A20, H⟩ := H
 try dsimp only at H
 have A2 := aM_ A20
 clear A20
 obtain rfl := Option.some.inj H
 go_enter Tryz.func10, Tryz.ntmps10
 go_wp2_with (first | ((with_reducible refine gD_ (N := 1) rfl ?_); refine bE_ ?hg (N := 1) ?hd (cs := #[.slice A0_0 l0_0.length c0_0]) (t := 24) ?hr ?_; (case hd => rfl); (case hg => rfl); (case hr => (go_simp; done)); intro gb300 hg w3 hbox hb; have BK300 := aM_ (hbox); have GW300 := aM_ ((by rw [hg]; exact (bZ_ HB.out) : w.heap.size ≤ gb300)); have GE300 := GW300; replace HB := aM_ (bT_ HB.out hb); clear hb hbox hg) | ((with_reducible refine gD_ (N := 2) rfl ?_); refine bE_ ?hg (N := 2) ?hd (cs := #[.slice none 0 0]) (t := 30) ?hr ?_; (case hd => rfl); (case hg => rfl); (case hr => (go_simp; done)); intro gb301 hg w4 hbox hb; have BK301 := aM_ (hbox); have GW301 := aM_ ((by rw [hg]; exact (bZ_ HB.out) : w.heap.size ≤ gb301)); have GE301 := GW301; replace HB := aM_ (bT_ HB.out hb); have NB300_301 := aM_ ((by rw [hg]; exact Nat.ne_of_lt (bL_ BK300.out) : gb300 ≠ gb301)); have NB301_300 := aM_ NB300_301.out.symm; replace BK300 := aM_ (bB_ BK300.out hb); clear hb hbox hg) | ((with_reducible refine gD_ (N := 3) rfl ?_); refine bE_ ?hg (N := 3) ?hd (cs := #[.slice none 0 0]) (t := 30) ?hr ?_; (case hd => rfl); (case hg => rfl); (case hr => (go_simp; done)); intro gb302 hg w5 hbox hb; have BK302 := aM_ (hbox); have GW302 := aM_ ((by rw [hg]; exact (bZ_ HB.out) : w.heap.size ≤ gb302)); have GE302 := GW302; replace HB := aM_ (bT_ HB.out hb); have NB300_302 := aM_ ((by rw [hg]; exact Nat.ne_of_lt (bL_ BK300.out) : gb300 ≠ gb302)); have NB302_300 := aM_ NB300_302.out.symm; replace BK300 := aM_ (bB_ BK300.out hb); have NB301_302 := aM_ ((by rw [hg]; exact Nat.ne_of_lt (bL_ BK301.out) : gb301 ≠ gb302)); have NB302_301 := aM_ NB301_302.out.symm; replace BK301 := aM_ (bB_ BK301.out hb); clear hb hbox hg; have hnb6 := NB300_301.out; have hnc6 := NB301_300.out; have hnb7 := NB300_302.out; have hnc7 := NB302_300.out; have hcz8_0 : w5.cell? ⟨gb300, 0, none⟩ = some (.slice A0_0 l0_0.length c0_0) := (bC_ BK300.out 0).trans rfl; have hfz8_0 := bF_ BK300.out 0) | ((with_reducible refine gC_ (f := 32) rfl ?_); refine goesL_ (some 6) rfl rfl Tryz.func32 (by kernel_rfl) rfl #[.slice A0_0 l0_0.length c0_0] rfl (by (try simp only [sD_, sE_, sF_]); rfl) ?_; (with_reducible refine (laws_toBranchS.calls k _ _ l0_0 t303 _ ?side1 ?side2 A2.out).mono ?_); (case side1 => repeat (first | exact (k4_ HR0_0.out HB.out) | (with_reducible refine Kd.C_alloc ?_ _) | (with_reducible refine Kd.C_drewN ?_ _) | (with_reducible refine Kd.C_drew ?_))); (case side2 => exact HC0_0.out); rintro e w9 ⟨v304, rfl, ho0, hb⟩; refine ⟨_, rfl, ?_⟩; have HO305 := aM_ (k5_ ho0 (bZ_ HB.out)); replace BK300 := aM_ (bB_ BK300.out hb); replace BK301 := aM_ (bB_ BK301.out hb); replace BK302 := aM_ (bB_ BK302.out hb); replace HB := aM_ (bT_ HB.out hb); (try clear hb); (try clear ho0); obtain ⟨Ao10, co10, eo10⟩ := kS_ HO305.out; subst eo10; have hnb11 := NB302_301.out; have hnc11 := NB301_302.out; have hcz12_0 : w9.cell? ⟨gb302, 0, none⟩ = some (.slice none 0 0) := (bC_ BK302.out 0).trans rfl; have hfz12_0 := bF_ BK302.out 0; have hcz13_0 : w9.cell? ⟨gb301, 0, none⟩ = some (.slice none 0 0) := (bC_ BK301.out 0).trans rfl; have hfz13_0 := bF_ BK301.out 0))
 refine bodyPost_ret (results_cell_row rfl _ _ gb301 30 #[.slice Ao10 t303.length co10] (0, 0) _ rfl (by refine bP_ (cs := #[.slice none 0 0]) ?_ 0 _ rfl; refine bR_ ?_ NB301_302.out _; exact BK301.out) Tryz.underlying30 rfl (by kernel_rfl)) rfl ?_
 exact ⟨_, by rfl, by exact kM_ (kF_ (p := ⟨gb301, 0, none⟩) (kF_ (p := ⟨gb302, 0, none⟩) (kT_ (kT_ HO305.out BK302.out (by decide)) BK301.out (by decide)) (fun _ hk => hk.1.2) (.slice Ao10 t303.length co10)) (fun _ hk => hk.2) (.slice Ao10 t303.length co10)) (fun _ hk => trivial), by repeat (first | (with_reducible first | exact HB.out | apply bA_ | apply bN_ | apply bD_ | refine bS_ ?_ GE300.out | refine bS_ ?_ GE301.out | refine bS_ ?_ GE302.out) | exact HB.out)⟩
end Go.Proofs.YtfhffcefpnkllaaGreatDoor.P
namespace Go.Proofs
open Go.Shelf
def Tryz.lays160_ren : Go.Shelf.Ren := ⟨fun | 160 => 85 | 232 => 101 | 231 => 100 | 227 => 102 | 234 => 104 | 233 => 103 | 236 => 106 | 235 => 105 | 228 => 118 | 271 => 121 | 151 => 120 | 197 => 119 | 120 => 130 | 152 => 129 | 260 => 128 | 137 => 141 | 119 => 142 | 224 => 143 | 225 => 144 | 217 => 150 | 266 => 152 | n => n, fun | 9 => 9 | 4 => 4 | 3 => 3 | 5 => 5 | 117 => 117 | 116 => 116 | 0 => 0 | 124 => 120 | 21 => 21 | 105 => 127 | 46 => 124 | 119 => 148 | 139 => 151 | 138 => 150 | n => n, fun | 3 => 1 | 4 => 2 | n => n⟩
theorem Tryz.lays160 : Go.Proofs.Lays.n160 Tryz.prog Tryz.lays160_ren := {
  mixed := by kernel_rfl
  f119 := Tryz.func142.trans (congrArg some (by kernel_rfl))
  f120 := Tryz.func130.trans (congrArg some (by kernel_rfl))
  f137 := Tryz.func141.trans (congrArg some (by kernel_rfl))
  f151 := Tryz.func120.trans (congrArg some (by kernel_rfl))
  f152 := Tryz.func129.trans (congrArg some (by kernel_rfl))
  f160 := Tryz.func85.trans (congrArg some (by kernel_rfl))
  f197 := Tryz.func119.trans (congrArg some (by kernel_rfl))
  f217 := Tryz.func150.trans (congrArg some (by kernel_rfl))
  f224 := Tryz.func143.trans (congrArg some (by kernel_rfl))
  f225 := Tryz.func144.trans (congrArg some (by kernel_rfl))
  f227 := Tryz.func102.trans (congrArg some (by kernel_rfl))
  f228 := Tryz.func118.trans (congrArg some (by kernel_rfl))
  f231 := Tryz.func100.trans (congrArg some (by kernel_rfl))
  f232 := Tryz.func101.trans (congrArg some (by kernel_rfl))
  f233 := Tryz.func103.trans (congrArg some (by kernel_rfl))
  f234 := Tryz.func104.trans (congrArg some (by kernel_rfl))
  f235 := Tryz.func105.trans (congrArg some (by kernel_rfl))
  f236 := Tryz.func106.trans (congrArg some (by kernel_rfl))
  f260 := Tryz.func128.trans (congrArg some (by kernel_rfl))
  f266 := Tryz.func152.trans (congrArg some (by kernel_rfl))
  f271 := Tryz.func121.trans (congrArg some (by kernel_rfl))
  t0 := Tryz.underlying0
  a0 := Tryz.isAgg0
  z0 := Tryz.sizeOf0
  v0 := Tryz.zeroValue0
  t3 := Tryz.underlying3
  a3 := Tryz.isAgg3
  z3 := Tryz.sizeOf3
  v3 := Tryz.zeroValue3
  t4 := Tryz.underlying4
  a4 := Tryz.isAgg4
  z4 := Tryz.sizeOf4
  v4 := Tryz.zeroValue4
  t5 := Tryz.underlying5
  a5 := Tryz.isAgg5
  z5 := Tryz.sizeOf5
  v5 := Tryz.zeroValue5
  t9 := Tryz.underlying9
  a9 := Tryz.isAgg9
  z9 := Tryz.sizeOf9
  v9 := Tryz.zeroValue9
  t21 := Tryz.underlying21
  a21 := Tryz.isAgg21
  z21 := Tryz.sizeOf21
  v21 := Tryz.zeroValue21
  t46 := Tryz.underlying124
  a46 := Tryz.isAgg124
  z46 := Tryz.sizeOf124
  v46 := Tryz.zeroValue124
  t105 := Tryz.underlying127
  a105 := Tryz.isAgg127
  z105 := Tryz.sizeOf127
  v105 := Tryz.zeroValue127
  t116 := Tryz.underlying116
  a116 := Tryz.isAgg116
  z116 := Tryz.sizeOf116
  t117 := Tryz.underlying117
  a117 := Tryz.isAgg117
  z117 := Tryz.sizeOf117
  v117 := Tryz.zeroValue117
  t119 := Tryz.underlying148
  a119 := Tryz.isAgg148
  z119 := Tryz.sizeOf148
  t124 := Tryz.underlying120
  a124 := Tryz.isAgg120
  z124 := Tryz.sizeOf120
  v124 := Tryz.zeroValue120
  t138 := Tryz.underlying150
  a138 := Tryz.isAgg150
  z138 := Tryz.sizeOf150
  v138 := Tryz.zeroValue150
  t139 := Tryz.underlying151
  a139 := Tryz.isAgg151
  z139 := Tryz.sizeOf151
  v139 := Tryz.zeroValue151
  g3 := by kernel_rfl
  g4 := by kernel_rfl }
end Go.Proofs
namespace Go.Proofs.YtfhffcefpnkllaaGreatDoor.P
open Go.RowKit Go.Proofs.YtfhffcefpnkllaaGreatDoorW.PrintWords Go.Proofs.YtfhffcefpnkllaaGreatDoorW.PrintLast Go.Proofs.YtfhffcefpnkllaaGreatDoorW.PrintMore
open Go.Proofs.YtfhffcefpnkllaaGreatDoorW.PrintWords renaming blk_frozen → bF_, blk_cell → bC_, below_set → bS_, blk_below → bB_, below_step → bT_, pw_below_drewN → bN_, below_size → bZ_, below_drew1 → bD_, below_alloc → bA_, blk_far → bR_, gate_callee → gC_, gate_dst → gD_, box_event → bE_, blk_drew → b1_, blk_put → bP_, blk_drewN → b2_, blk_alloc → b3_, blk_lt → bL_, cell_far → cF_
open Go.Proofs.YtfhffcefpnkllaaGreatDoorW.PrintLast renaming any_of → aO_, i64_w → i6_, i32_w → i3_, take_ofW → tW_
open Go.Proofs.YtfhffcefpnkllaaGreatDoorW.PrintWords.Kd renaming R_below → kB_, R_mono → kM_, R_far → kF_, R_reads' → kR_, R_types → kT_, R_slice → kS_, R_celln → kC_, R_alloc → k1_, R_drewN → k2_, R_drew → k3_, C_below → k4_, R_lower → k5_, R_ne → k6_, own_blk → k7_
open Go.Proofs.YtfhffcefpnkllaaGreatDoorW.PrintWords.LeO renaming none → l0_, bind → l1_, ite → l2_, refl → l3_
open World renaming block_lt_of_cell? → wB_
open _root_.Option renaming bind_eq_some_iff → oB_
open _root_.ByteArray renaming empty → eB_
open List renaming setIfInBounds_toArray → sA_, set_cons_zero → sB_, set_cons_succ → sC_, map_toArray → sD_, map_cons → sE_, map_nil → sF_, length_drop → sG_, length_take → sH_
open Bool renaming true → ty, false → fy
open Aside0 renaming mk → aM_
attribute [local go_sem] max2_int min2_int max_two min_two max_three min_three max_four min_four
def impl_areLetters.letter (c : UInt8) : Bool := decide (97 ≤ c.toNat ∧ c.toNat ≤ 122)
def impl_areLetters.f (a0 : ByteArray) : Option Bool := if a0.size ≤ 9223372036854775807 then some (a0.data.toList.all impl_areLetters.letter) else none
def impl_areLetters.abc : List UInt8 := [97, 98, 99, 100, 101, 102, 103, 104, 105, 106, 107, 108, 109, 110, 111, 112, 113, 114, 115, 116, 117, 118, 119, 120, 121, 122]
theorem impl_areLetters.abc_mem (c : UInt8) : impl_areLetters.abc.contains c = impl_areLetters.letter c := by
 have h : ∀ n : Fin 256, impl_areLetters.abc.contains (UInt8.ofNat n.val) = impl_areLetters.letter (UInt8.ofNat n.val) := by decide +kernel
 have := h ⟨c.toNat, c.toNat_lt⟩
 simpa using this
theorem impl_areLetters.dw_nil (p : UInt8 → Bool) : ∀ l : List UInt8, l.dropWhile p = [] ↔ ∀ x ∈ l, p x = true
 | [] => by simp
 | a :: l => by
  cases h : p a
  ·
   simp [List.dropWhile_cons, h]
  ·
   simp [List.dropWhile_cons, h, impl_areLetters.dw_nil p l]
theorem impl_areLetters.dw_head (p : UInt8 → Bool) : ∀ (l t : List UInt8) (a : UInt8), l.dropWhile p = a :: t → p a = false
 | [], _, _, h => by simp at h
 | b :: l, t, a, h => by
  cases hb : p b
  ·
   simp [List.dropWhile_cons, hb] at h; rw [← h.1]; exact hb
  ·
   simp [List.dropWhile_cons, hb] at h; exact impl_areLetters.dw_head p l t a h
theorem impl_areLetters.trim_eq (p : UInt8 → Bool) (l : List UInt8) : ((l.reverse.dropWhile p).reverse.dropWhile p).isEmpty = l.all p := by
 rw [Bool.eq_iff_iff, List.isEmpty_iff, impl_areLetters.dw_nil p, List.all_eq_true]
 constructor
 ·
  intro h
  cases hm : l.reverse.dropWhile p with
  | nil =>
   rw [impl_areLetters.dw_nil p] at hm
   exact fun x hx => hm x (by simpa using hx)
  | cons a t =>
   have h1 : p a = true := h a (by rw [hm]; simp)
   rw [impl_areLetters.dw_head p _ _ _ hm] at h1; cases h1
 ·
  intro h x hx
  have : x ∈ l.reverse.dropWhile p := by simpa using hx
  have := (List.dropWhile_sublist p).subset this
  exact h x (by simpa using this)
theorem impl_areLetters.trim_nil (l : List UInt8) : (Lib.trimS l impl_areLetters.abc).isEmpty = l.all impl_areLetters.letter := by
 unfold Lib.trimS Lib.trimLeftS Lib.trimRightS
 have : (fun x => impl_areLetters.abc.contains x) = impl_areLetters.letter := funext impl_areLetters.abc_mem
 rw [this, impl_areLetters.trim_eq]
theorem impl_areLetters.rb {a b : Bool} (h : a = b) : Ending.returned (.bool a) = .returned (.bool b) := by rw [h]
set_option maxHeartbeats 2000000 in
theorem impl_areLetters.calls (a0 : ByteArray) (r : Bool) (w : World) (h : impl_areLetters.f a0 = some r) :
  Calls Tryz.prog 64 #[.string a0] w fun e w' => e = .returned (.bool r) ∧ Below w.heap.size w w' := by
 unfold impl_areLetters.f at h
 by_cases hs : a0.size ≤ 9223372036854775807
 rotate_left
 ·
  rw [if_neg hs] at h; cases h
 rw [if_pos hs] at h
 have H := aM_ (Option.some.inj h)
 clear h
 have HC := aM_ (Go.Proofs.Any.strings_Trim_laid Go.Proofs.Tryz.lays160 (by kernel_rfl) a0 ⟨#[97, 98, 99, 100, 101, 102, 103, 104, 105, 106, 107, 108, 109, 110, 111, 112, 113, 114, 115, 116, 117, 118, 119, 120, 121, 122]⟩ w hs (by decide) (Go.Proofs.ascii_of_all (by decide)))
 have HT := aM_ ((show (Lib.trimS a0.data.toList impl_areLetters.abc).isEmpty = r from (impl_areLetters.trim_nil _).trans H.out))
 clear H
 go_enter Tryz.func64, Tryz.ntmps64
 go_wp2_with fail
 refine HC.out.mono ?_
 clear HC
 rintro e w1 ⟨rfl, hb0⟩
 have HB := aM_ hb0
 clear hb0
 obtain ⟨t, ht⟩ : ∃ t, t = Lib.trimS a0.data.toList impl_areLetters.abc := ⟨_, rfl⟩
 rw [show Lib.trimS a0.data.toList (⟨#[97, 98, 99, 100, 101, 102, 103, 104, 105, 106, 107, 108, 109, 110, 111, 112, 113, 114, 115, 116, 117, 118, 119, 120, 121, 122]⟩ : ByteArray).data.toList = t from ht.symm]
 rw [← ht] at HT
 clear ht
 cases t with
 | nil =>
  go_wp2_with fail
  go_ret
  exact ⟨impl_areLetters.rb (by rw [← HT.out]; rfl), HB.out⟩
 | cons c t =>
  go_wp2_with fail
  go_ret
  exact ⟨impl_areLetters.rb (by rw [← HT.out]; rfl), HB.out⟩
def impl_isWord.f (a0 : ByteArray) : Option (Bool) := if (a0.size : Int) ≤ 12 then ((impl_areLetters.f a0).bind fun t306 => (some t306)) else (some false)
theorem impl_isWord.calls (a0 : ByteArray) (r : Bool) (w : World) (h : impl_isWord.f a0 = some r) :
  Calls Tryz.prog 34 #[.string a0] w fun e w' => e = .returned (.bool r) ∧ Below w.heap.size w w' := by
 have HB := aM_ (Below.refl w.heap.size w)
 have H : (if (a0.size : Int) ≤ 12 then ((impl_areLetters.f a0).bind fun t306 => (some t306)) else (some false)) = some r := h
 clear h
 by_cases c2 : (a0.size : Int) ≤ 12
 ·
  rw [if_pos c2] at H
  have c2b0 := decide_eq_true c2
  have c2b1 : decide (a0.size ≤ 12) = true := decide_eq_true (by omega)
  clear c2
  replace H := oB_.mp H
  obtain ⟨t306, A30, H⟩ := H
  try dsimp only at H
  have A3 := aM_ A30
  clear A30
  obtain rfl := Option.some.inj H
  go_enter Tryz.func34, Tryz.ntmps34
  go_wp2_with (first | (go_at_call 64; (with_reducible refine (impl_areLetters.calls a0 t306 _ A3.out).mono ?_); rintro e w4 ⟨rfl, hb⟩; replace HB := aM_ (bT_ HB.out hb); (try clear hb)))
  go_ret
  exact ⟨by rfl, by exact HB.out⟩
 ·
  rw [if_neg c2] at H
  have c2b0 := decide_eq_false c2
  have c2b1 : decide (a0.size ≤ 12) = false := decide_eq_false (by omega)
  clear c2
  obtain rfl := Option.some.inj H
  go_enter Tryz.func34, Tryz.ntmps34
  go_wp2
  go_ret
  exact ⟨by rfl, by exact HB.out⟩
def impl_in.f (a0 : Int) (a1 : Int) (a2 : Int) : Option (Bool) := if a0 ≥ a1 then (some (decide (a0 ≤ a2))) else (some false)
theorem impl_in.calls (a0 : Int) (a1 : Int) (a2 : Int) (r : Bool) (w : World) (h : impl_in.f a0 a1 a2 = some r) :
  Calls Tryz.prog 67 #[.int .i64 a0, .int .i64 a1, .int .i64 a2] w fun e w' => e = .returned (.bool r) ∧ Drawn0 w w' := by
 have H : (if a0 ≥ a1 then (some (decide (a0 ≤ a2))) else (some false)) = some r := h
 clear h
 by_cases c4 : a0 ≥ a1
 ·
  rw [if_pos c4] at H
  have c4b0 := decide_eq_true c4
  clear c4
  obtain rfl := Option.some.inj H
  go_enter Tryz.func67, Tryz.ntmps67
  go_wp2
  go_ret
  exact ⟨by rfl, by repeat (first | exact Drawn0.refl _ | apply Drawn0.step)⟩
 ·
  rw [if_neg c4] at H
  have c4b0 := decide_eq_false c4
  clear c4
  obtain rfl := Option.some.inj H
  go_enter Tryz.func67, Tryz.ntmps67
  go_wp2
  go_ret
  exact ⟨by rfl, by repeat (first | exact Drawn0.refl _ | apply Drawn0.step)⟩
def impl_Pressed_prefixes.l0 : Nat → List ByteArray → List (S60) → Int → Int → Option (List ByteArray × Bool)
 | 0, _, _, _, _ => none
 | k + 1, x4, x15, x16, x17 => if x17 < x16 then (if 0 ≤ x17 then (if x17 < (x15.length : Int) then ((impl_in.f ((rd_T60 x15 x17).f1) 0 x17).bind fun t318 => (if t318 = true then (if (((rd_T60 x15 x17).f0).size : Int) > 12 then (some (([] : List ByteArray), false)) else (if 0 ≤ ((rd_T60 x15 x17).f1) then (if ((rd_T60 x15 x17).f1) < (x4.length : Int) then (if (rdOf eB_ x4 ((rd_T60 x15 x17).f1)).size + ((rd_T60 x15 x17).f0).size ≤ 9223372036854775807 then ((impl_isWord.f ((rdOf eB_ x4 ((rd_T60 x15 x17).f1)) ++ ((rd_T60 x15 x17).f0))).bind fun t320 => (if t320 = true then (if x4.length < 8796093022208 then (impl_Pressed_prefixes.l0 k (x4 ++ [(rdOf eB_ x4 ((rd_T60 x15 x17).f1)) ++ ((rd_T60 x15 x17).f0)]) x15 x16 (wrap64 (x17 + 1))) else (none)) else (some (([] : List ByteArray), false)))) else (none)) else (none)) else (none))) else (some (([] : List ByteArray), false)))) else (none)) else (none)) else (some (x4, true))
def impl_Pressed_prefixes.f (k : Nat) (l0_0 : List (S60)) : Option (List ByteArray × Bool) := (impl_in.f (l0_0.length : Int) 1 81).bind fun t311 => (if t311 = true then (if 1 ≤ (l0_0.length : Int) then ((some (l0_0.drop 1 : List (S60))).bind fun y312 => (impl_Pressed_prefixes.l0 k (([(⟨#[]⟩ : ByteArray)] : List ByteArray)) y312 (y312.length : Int) 0)) else (none)) else (some (([] : List ByteArray), false)))
theorem impl_Pressed_prefixes.mono_l : ∀ k, (∀ y0 y1 y2 y3, LeO (impl_Pressed_prefixes.l0 k y0 y1 y2 y3) (impl_Pressed_prefixes.l0 (k + 1) y0 y1 y2 y3))
 | 0 => fun _ _ _ _ r h => by simp [impl_Pressed_prefixes.l0] at h
 | k + 1 => by
  have ih0 := impl_Pressed_prefixes.mono_l k
  ·
   intro y0 y1 y2 y3
   unfold impl_Pressed_prefixes.l0
   repeat' first
   | (with_reducible exact ih0 _ _ _ _)
   | (with_reducible exact l3_ _)
   | (with_reducible exact l0_ _)
   | (with_reducible refine l2_ ?_ ?_)
   | (with_reducible refine l1_ ?_ (fun _ => ?_))
   | exact ih0 _ _ _ _
   | exact l0_ _
   | refine l2_ ?_ ?_
   | refine l1_ ?_ (fun _ => ?_)
theorem impl_Pressed_prefixes.mono : ∀ a0 k, LeO (impl_Pressed_prefixes.f k a0) (impl_Pressed_prefixes.f (k + 1) a0) := by
 intro a0 k
 have ih0 := impl_Pressed_prefixes.mono_l k
 unfold impl_Pressed_prefixes.f
 repeat' first
   | (with_reducible exact ih0 _ _ _ _)
   | (with_reducible exact l3_ _)
   | (with_reducible exact l0_ _)
   | (with_reducible refine l2_ ?_ ?_)
   | (with_reducible refine l1_ ?_ (fun _ => ?_))
   | exact ih0 _ _ _ _
   | exact l0_ _
   | refine l2_ ?_ ?_
   | refine l1_ ?_ (fun _ => ?_)
def impl_Pressed_prefixes.T7 : Bool × List (List Nat × List Nat) := (true, [([], []), ([0], [0]), ([], []), ([1, 2], [1, 2]), ([3], [3]), ([4, 3], [4]), ([5], [5]), ([6, 5], [5, 6]), ([7, 5], [5, 7]), ([8, 5], [5, 8]), ([5, 9], [5, 9]), ([10, 5], [10]), ([11], [11]), ([11], [11]), ([13, 11], [11, 13]), ([12, 14, 11], [11, 12, 14]), ([15, 11], [11, 15]), ([11], [11]), ([17, 11], [11, 17]), ([16, 18, 11], [11, 16, 18]), ([19, 11, 11], [11, 19]), ([20, 11], [11, 20]), ([11, 21], [11, 21])])
def impl_Pressed_prefixes.B7 : List Nat := [0, 1, 0, 7, 15, 31, 63, 127, 255, 511, 1023, 2047, 4095, 4095, 12287, 32767, 65535, 4095, 135167, 524287, 1048575, 2097151, 4194303]
theorem impl_Pressed_prefixes.tab7 : rtab .any (opsOf Tryz.f36 7) = impl_Pressed_prefixes.T7 := by kernel_rfl
theorem impl_Pressed_prefixes.bits7 : waitsOk impl_Pressed_prefixes.T7.2 impl_Pressed_prefixes.B7 = true := by kernel_rfl
def impl_Pressed_prefixes.T9 : Bool × List (List Nat × List Nat) := (true, [([], []), ([], []), ([], []), ([2], [2]), ([1, 3], [1, 3]), ([4], [4]), ([], []), ([6], [6]), ([5, 7], [5, 7]), ([8], [8]), ([0, 9], [0, 9]), ([10, 10, 0, 1, 2, 3, 4, 5, 6, 7, 8, 9, 10], [0, 1, 10])])
def impl_Pressed_prefixes.B9 : List Nat := [0, 0, 0, 4, 14, 30, 0, 64, 254, 510, 1023, 2047]
theorem impl_Pressed_prefixes.tab9 : rtab .any (opsOf Tryz.f36 9) = impl_Pressed_prefixes.T9 := by kernel_rfl
theorem impl_Pressed_prefixes.bits9 : waitsOk impl_Pressed_prefixes.T9.2 impl_Pressed_prefixes.B9 = true := by kernel_rfl
theorem impl_Pressed_prefixes.calls (k : Nat) (A0_0 : Option Addr) (c0_0 : Nat) (l0_0 : List (S60)) (r1 : List ByteArray) (r2 : Bool) (w : World) (hr0_0 : Kd.C k60 w A0_0 l0_0.length l0_0) (hc0_0 : l0_0.length ≤ c0_0) (h : impl_Pressed_prefixes.f k l0_0 = some (r1, r2)) :
  Calls Tryz.prog 36 #[.agg #[.slice A0_0 l0_0.length c0_0]] w fun e w' => ∃ v0_ : Value, e = .returned (.tuple #[v0_, .bool r2]) ∧ Kd.R Kd.string 9 w' w.heap.size (fun _ => True) v0_ r1 ∧ Below w.heap.size w w' := by
 have hu30 := Tryz.underlying30
 have hu60 := Tryz.underlying60
 have HR0_0 := aM_ hr0_0
 have HC0_0 := aM_ hc0_0
 clear hr0_0 hc0_0
 have HB := aM_ (Below.refl w.heap.size w)
 have H : ((impl_in.f (l0_0.length : Int) 1 81).bind fun t311 => (if t311 = true then (if 1 ≤ (l0_0.length : Int) then ((some (l0_0.drop 1 : List (S60))).bind fun y312 => (impl_Pressed_prefixes.l0 k (([(⟨#[]⟩ : ByteArray)] : List ByteArray)) y312 (y312.length : Int) 0)) else (none)) else (some (([] : List ByteArray), false)))) = some (r1, r2) := h
 clear h
 obtain ⟨y308, hy308⟩ : ∃ y_ : List ByteArray, y_ = (([(⟨#[]⟩ : ByteArray)] : List ByteArray)) := ⟨_, rfl⟩
 replace H : ((impl_in.f (l0_0.length : Int) 1 81).bind fun t311 => (if t311 = true then (if 1 ≤ (l0_0.length : Int) then ((some (l0_0.drop 1 : List (S60))).bind fun y312 => (impl_Pressed_prefixes.l0 k y308 y312 (y312.length : Int) 0)) else (none)) else (some (([] : List ByteArray), false)))) = some (r1, r2) := by first | (rw [hy308]; with_reducible exact H) | (have H2_ := (Option.bind_some _ _).symm.trans H; rw [hy308]; with_reducible exact H2_) | (have H2_ := (Option.bind_some _ _).symm.trans H; with_reducible exact H2_) | with_reducible exact H | (rw [hy308]; exact H) | exact H
 have Ny308 := aM_ hy308
 clear hy308
 replace H := oB_.mp H
 obtain ⟨t311, A20, H⟩ := H
 try dsimp only at H
 have A2 := aM_ A20
 clear A20
 by_cases c3 : t311 = true
 ·
  subst c3
  rw [if_pos rfl] at H
  by_cases c4 : 1 ≤ (l0_0.length : Int)
  rotate_left
  ·
   rw [if_neg c4] at H
   exact absurd H (by simp)
  rw [if_pos c4] at H
  have c4b0 := eq_true c4
  have c4b1 := decide_eq_true c4
  clear c4
  obtain ⟨y312, hy312⟩ : ∃ y_ : List (S60), y_ = (l0_0.drop 1) := ⟨_, rfl⟩
  replace H : (impl_Pressed_prefixes.l0 k y308 y312 (y312.length : Int) 0) = some (r1, r2) := by first | (rw [hy312]; with_reducible exact H) | (have H2_ := (Option.bind_some _ _).symm.trans H; rw [hy312]; with_reducible exact H2_) | (have H2_ := (Option.bind_some _ _).symm.trans H; with_reducible exact H2_) | with_reducible exact H | (rw [hy312]; exact H) | exact H
  have Ny312 := aM_ hy312
  clear hy312
  have H' := aM_ H
  clear H
  go_enter Tryz.func36, Tryz.ntmps36
  go_wp2_with (first | ((with_reducible refine gD_ (N := 1) rfl ?_); (try (refine gate_guard (by rfl) ?_; dsimp only)); refine bE_ ?hg (N := 1) ?hd (cs := #[.slice A0_0 l0_0.length c0_0]) (t := 30) ?hr ?_; (case hd => rfl); (case hg => rfl); (case hr => (go_simp; done)); intro gb307 hg w5 hbox hb; have BK307 := aM_ (hbox); have GW307 := aM_ ((by rw [hg]; exact (bZ_ HB.out) : w.heap.size ≤ gb307)); have GE307 := GW307; replace HB := aM_ (bT_ HB.out hb); clear hb hbox hg) | ((with_reducible refine gD_ (N := 7) rfl ?_); (try (refine gate_guard (by rfl) ?_; dsimp only)); refine Kd.R_lit Kd.string _ 9 ?hg (N := 7) ?hd (xs := ([(⟨#[]⟩ : ByteArray)] : List ByteArray)) (inner := [.string (⟨#[]⟩ : ByteArray)]) (ok := fun _ => True) (okp := fun _ => True) ?hr ?hp (fun _ hk => hk) trivial (Below.refl _ _) (Nat.le_refl _) (by simp) ?_; (case hd => rfl); (case hg => rfl); (case hr => (go_simp; done)); (case hp => exact (Reps.one (show Kd.M Kd.string _ _ _ (⟨#[]⟩ : ByteArray) [.string (⟨#[]⟩ : ByteArray)] from rfl) (Reps.none _ _))); intro v309 w6 ho7 hb hg_ hnew_; clear hg_ hnew_; (rw [← Ny308.out] at ho7); have HO310 := aM_ (k5_ ho7 (bZ_ HB.out)); replace BK307 := aM_ (bB_ BK307.out hb); replace HB := aM_ (bT_ HB.out hb); clear hb ho7; have hcz8_0 : w6.cell? ⟨gb307, 0, none⟩ = some (.slice A0_0 l0_0.length c0_0) := (bC_ BK307.out 0).trans rfl; have hfz8_0 := bF_ BK307.out 0) | ((with_reducible refine gC_ (f := 67) rfl ?_); refine goesL_ (some 11) rfl rfl Tryz.func67 (by kernel_rfl) rfl #[.int .i64 (l0_0.length : Int), .int .i64 1, .int .i64 81] rfl (by (try simp only [sD_, sE_, sF_]); rfl) ?_; (with_reducible refine (impl_in.calls (l0_0.length : Int) 1 81 true _ A2.out).mono ?_); rintro e w' ⟨rfl, ⟨nd, rfl⟩⟩; refine ⟨_, rfl, ?_⟩; have q9 : (1 : Int) ≤ ((l0_0.length : Int) : Int) := of_decide_eq_true (by (with_reducible assumption)); obtain ⟨i09, hi09, _, hsz9, _⟩ := info_parts info60; have hroom9 : l0_0.length ≤ c0_0 := HC0_0.out; have hC9 : Kd.C k60 _ A0_0 l0_0.length l0_0 := HR0_0.out; have hcut9 := cut_from (P := Tryz.prog) 28 60 .i64 Tryz.underlying28 hi09 3 hsz9 A0_0 l0_0.length c0_0 1 (by omega) q9; have hr9 := Kd.C_drop (m := (1 : Int).toNat) (c := c0_0) hC9 (by omega) hroom9; obtain ⟨A9, hA9⟩ : ∃ A1, A1 = (if c0_0 = (1 : Int).toNat then A0_0 else (A0_0 : Option Addr).map (·.add ((1 : Int).toNat * 3))) := ⟨_, rfl⟩; obtain ⟨c9, hc9⟩ : ∃ c1, c1 = c0_0 - (1 : Int).toNat := ⟨_, rfl⟩; have hy9 : y312.length = l0_0.length - (1 : Int).toNat := (by rw [Ny312.out, List.length_drop] <;> omega); rw [show (l0_0).drop (1 : Int).toNat = y312 from Ny312.out.symm] at hr9; replace hr9 : Kd.C k60 _ A9 y312.length y312 := (by rw [hA9]; exact hr9); rw [← hy9, ← hA9, ← hc9] at hcut9; have HR315 := aM_ hr9; have HC315 := aM_ (show y312.length ≤ c9 from by rw [hy9, hc9]; exact Nat.sub_le_sub_right hroom9 _); clear hr9 hC9 hroom9 hi09 hsz9 hc9; have KY9 := aM_ hy9; have KA9 := aM_ hA9; clear hy9 hA9; replace q9 := eq_true q9))
  go_loopg [4, 17] k (fun kq v4 v17 w' => ∃ (x4_1 : List ByteArray) (x17_1 : Int), v17 = .int .i64 x17_1 ∧ Aside0 (impl_Pressed_prefixes.l0 kq x4_1 y312 (y312.length : Int) x17_1 = some (r1, r2)) ∧ Aside0 (kq ≤ k) ∧ Aside0 (Kd.R Kd.string 9 w' w.heap.size (fun _ => True) v4 x4_1) ∧ Aside0 (w'.heap[gb307]? = some (.cells #[(.slice A0_0 l0_0.length c0_0)] 30 (0, 0))) ∧ Aside0 (Below w.heap.size w w'))
  case atStart => exact ⟨(y308), (0), (by rfl), H', ⟨Nat.le_refl _⟩, ⟨by (with_reducible repeat (first | apply k1_ | apply k2_ | apply k3_)); exact HO310.out⟩, ⟨by (with_reducible repeat (first | refine b2_ ?_ _ | refine b1_ ?_ | refine b3_ ?_ _)); exact BK307.out⟩, ⟨by repeat (first | (with_reducible first | exact HB.out | apply bA_ | apply bN_ | apply bD_ | refine bS_ ?_ GE307.out) | exact HB.out)⟩⟩
  case round =>
   clear H'
   try clear p2
   try clear c4b0
   try clear c4b1
   try clear q9
   try clear hcz8_0
   try clear hfz8_0
   try clear q9
   obtain ⟨x4_1, x17_1, rfl, HA, HK1, HO_4, BK307, HB⟩ := hrel
   cases gk with
   | zero => exact absurd HA.out (by simp [impl_Pressed_prefixes.l0])
   | succ k1 =>
    have H := HA.out
    clear HA
    simp only [impl_Pressed_prefixes.l0] at H
    by_cases c10 : x17_1 < (y312.length : Int)
    ·
     rw [if_pos c10] at H
     have c10b0 := decide_eq_true c10
     clear c10
     by_cases c11 : 0 ≤ x17_1
     ·
      rw [if_pos c11] at H
      have c11b0 := decide_eq_true c11
      clear c11
      by_cases c12 : x17_1 < (y312.length : Int)
      ·
       rw [if_pos c12] at H
       have c12b0 := decide_eq_true c12
       clear c12
       replace H := oB_.mp H
       obtain ⟨t318, A130, H⟩ := H
       try dsimp only at H
       have A13 := aM_ A130
       clear A130
       by_cases c14 : t318 = true
       ·
        subst c14
        rw [if_pos rfl] at H
        by_cases c15 : (((rd_T60 y312 x17_1).f0).size : Int) > 12
        ·
         rw [if_pos c15] at H
         have c15b0 := decide_eq_true c15
         have c15b1 : decide (12 < ((rd_T60 y312 x17_1).f0).size) = true := decide_eq_true (by omega)
         clear c15
         simp only [Option.some.injEq, Prod.mk.injEq] at H
         obtain ⟨rfl, rfl⟩ := H
         have p316 : 0 ≤ (x17_1 : Int) := of_decide_eq_true (by (with_reducible assumption))
         have q316 : x17_1 < (y312.length : Int) := of_decide_eq_true (by (with_reducible assumption))
         obtain ⟨ad316, e316, hx316_0, hx316_1, hx316_2⟩ := at_T60 HR315.out x17_1 p316 q316
         cases e316
         replace hx316_0 := (HB.out.cell (wB_ w _ hx316_0)).trans hx316_0
         replace hx316_1 := (HB.out.cell (wB_ w _ hx316_1)).trans hx316_1
         replace hx316_2 := (HB.out.cell (wB_ w _ hx316_2)).trans hx316_2
         replace p316 := eq_true p316
         replace q316 := eq_true q316
         try go_wp2_with (first | ((with_reducible refine gD_ (N := 6) rfl ?_); (try (refine gate_guard (by rfl) ?_; dsimp only)); refine bE_ ?hg (N := 6) ?hd (cs := #[.string (⟨#[]⟩ : ByteArray), .int .i64 0, .bool false]) (t := 60) ?hr ?_; (case hd => rfl); (case hg => rfl); (case hr => (go_simp; done)); intro gb317 hg w16 hbox hb; replace HO_4 := aM_ (kB_ HO_4.out hb); have BK317 := aM_ (hbox); have GW317 := aM_ ((by rw [hg]; exact (bZ_ HB.out) : w.heap.size ≤ gb317)); have GE317 := GW317; replace HB := aM_ (bT_ HB.out hb); have NB307_317 := aM_ ((by rw [hg]; exact Nat.ne_of_lt (bL_ BK307.out) : gb307 ≠ gb317)); have NB317_307 := aM_ NB307_317.out.symm; replace BK307 := aM_ (bB_ BK307.out hb); clear hb hbox hg; have hnb17 := NB317_307.out; have hnc17 := NB307_317.out; have hcz18_0 : w16.cell? ⟨gb317, 0, none⟩ = some (.string (⟨#[]⟩ : ByteArray)) := (bC_ BK317.out 0).trans rfl; have hcz18_1 : w16.cell? ⟨gb317, 1, none⟩ = some (.int .i64 0) := (bC_ BK317.out 1).trans rfl; have hcz18_2 : w16.cell? ⟨gb317, 2, none⟩ = some (.bool false) := (bC_ BK317.out 2).trans rfl; have hfz18_0 := bF_ BK317.out 0; have hfz18_1 := bF_ BK317.out 1; have hfz18_2 := bF_ BK317.out 2))
         have n0_ : Aside0 (Kd.R Kd.string 9 (((w16.setCell ⟨gb317, 0, none⟩ (.string ((rd_T60 y312 x17_1).f0))).setCell ⟨gb317, 1, none⟩ (.int .i64 ((rd_T60 y312 x17_1).f1))).setCell ⟨gb317, 2, none⟩ (.bool ((rd_T60 y312 x17_1).f2))) w.heap.size (fun _ => True) u4 x4_1) := ⟨by exact kM_ (kF_ (p := ⟨gb317, 2, none⟩) (kF_ (p := ⟨gb317, 1, none⟩) (kF_ (p := ⟨gb317, 0, none⟩) (kT_ HO_4.out BK317.out (by decide)) (fun _ hk => hk.2) (.string ((rd_T60 y312 x17_1).f0))) (fun _ hk => hk.2) (.int .i64 ((rd_T60 y312 x17_1).f1))) (fun _ hk => hk.2) (.bool ((rd_T60 y312 x17_1).f2))) (fun _ hk => trivial)⟩
         have n1_ : Aside0 ((((w16.setCell ⟨gb317, 0, none⟩ (.string ((rd_T60 y312 x17_1).f0))).setCell ⟨gb317, 1, none⟩ (.int .i64 ((rd_T60 y312 x17_1).f1))).setCell ⟨gb317, 2, none⟩ (.bool ((rd_T60 y312 x17_1).f2))).heap[gb307]? = some (.cells #[.slice A0_0 l0_0.length c0_0] 30 (0, 0))) := ⟨by refine bR_ ?_ NB307_317.out _; refine bR_ ?_ NB307_317.out _; refine bR_ ?_ NB307_317.out _; exact BK307.out⟩
         have n2_ : Aside0 ((((w16.setCell ⟨gb317, 0, none⟩ (.string ((rd_T60 y312 x17_1).f0))).setCell ⟨gb317, 1, none⟩ (.int .i64 ((rd_T60 y312 x17_1).f1))).setCell ⟨gb317, 2, none⟩ (.bool ((rd_T60 y312 x17_1).f2))).heap[gb317]? = some (.cells #[.string ((rd_T60 y312 x17_1).f0), .int .i64 ((rd_T60 y312 x17_1).f1), .bool ((rd_T60 y312 x17_1).f2)] 60 (0, 0))) := ⟨by refine bP_ (cs := #[.string ((rd_T60 y312 x17_1).f0), .int .i64 ((rd_T60 y312 x17_1).f1), .bool false]) ?_ 2 _ rfl; refine bP_ (cs := #[.string ((rd_T60 y312 x17_1).f0), .int .i64 0, .bool false]) ?_ 1 _ rfl; refine bP_ (cs := #[.string (⟨#[]⟩ : ByteArray), .int .i64 0, .bool false]) ?_ 0 _ rfl; exact BK317.out⟩
         have n3_ : Aside0 (Below w.heap.size w (((w16.setCell ⟨gb317, 0, none⟩ (.string ((rd_T60 y312 x17_1).f0))).setCell ⟨gb317, 1, none⟩ (.int .i64 ((rd_T60 y312 x17_1).f1))).setCell ⟨gb317, 2, none⟩ (.bool ((rd_T60 y312 x17_1).f2)))) := ⟨by repeat (first | (with_reducible first | exact HB.out | apply bA_ | apply bN_ | apply bD_ | refine bS_ ?_ GE307.out | refine bS_ ?_ GE317.out) | exact HB.out)⟩
         (try clear HO_4)
         (try clear BK307)
         (try clear BK317)
         (try clear HB)
         generalize (((w16.setCell ⟨gb317, 0, none⟩ (.string ((rd_T60 y312 x17_1).f0))).setCell ⟨gb317, 1, none⟩ (.int .i64 ((rd_T60 y312 x17_1).f1))).setCell ⟨gb317, 2, none⟩ (.bool ((rd_T60 y312 x17_1).f2))) = w19 at n0_ n1_ n2_ n3_ ⊢
         have HO_4 := n0_
         have BK307 := n1_
         have BK317 := n2_
         have HB := n3_
         clear n0_ n1_ n2_ n3_
         have n0_ := aM_ (k3_ HO_4.out)
         have n1_ := aM_ (b1_ BK307.out)
         have n2_ := aM_ (b1_ BK317.out)
         have n3_ := aM_ (bD_ HB.out)
         clear HO_4
         clear BK307
         clear BK317
         clear HB
         have HO_4 := n0_
         have BK307 := n1_
         have BK317 := n2_
         have HB := n3_
         clear n0_ n1_ n2_ n3_
         refine start_ (n := 23) (S := fun w' => w'.cell? ⟨gb317, 0, none⟩ = some (.string ((rd_T60 y312 x17_1).f0)) ∧ w'.cell? ⟨gb317, 1, none⟩ = some (.int .i64 ((rd_T60 y312 x17_1).f1)) ∧ w'.cell? ⟨gb317, 2, none⟩ = some (.bool ((rd_T60 y312 x17_1).f2))) (ds := []) #[fy, fy, fy, fy, fy, fy, fy, fy, fy, fy, fy, fy, fy, fy, fy, fy, fy, fy, fy, fy, fy, fy, fy] (by kernel_rfl) rfl rfl ⟨(bC_ BK317.out 0).trans rfl, (bC_ BK317.out 1).trans rfl, (bC_ BK317.out 2).trans rfl⟩ (fun hHeld => ?_); refine with_tabW impl_Pressed_prefixes.tab7 impl_Pressed_prefixes.bits7 (fun HT_ HW_ => ?_)
         generalize w19.drew = w20 at HO_4 BK307 BK317 HB hHeld ⊢
         refine pure_ (i := 0) (N := some 22) (v := ?_) (a' := ?_) #[ty, fy, fy, fy, fy, fy, fy, fy, fy, fy, fy, fy, fy, fy, fy, fy, fy, fy, fy, fy, fy, fy, fy] rfl rfl (aO_ HT_.out (by kernel_rfl)) (fun _ _ _ h => h) (Or.inl ⟨by rfl, ?_⟩) ?_ ?_; rotate_left; (intro w'; go_simp; with_reducible rfl); rotate_left; (simp only [Act.put, sA_, sB_, sC_, i6_, i3_]; rfl)
         refine pure_ (i := 2) (N := some 24) (v := ?_) (a' := ?_) #[ty, fy, ty, fy, fy, fy, fy, fy, fy, fy, fy, fy, fy, fy, fy, fy, fy, fy, fy, fy, fy, fy, fy] rfl rfl (aO_ HT_.out (by kernel_rfl)) (fun _ _ _ h => h) (Or.inl ⟨by rfl, ?_⟩) ?_ ?_; rotate_left; (intro w'; go_simp; with_reducible rfl); rotate_left; (simp only [Act.put, sA_, sB_, sC_, i6_, i3_]; rfl)
         refine take_ (i := 1) (N := some 23) (v := ?_) (a' := ?_) #[ty, ty, ty, fy, fy, fy, fy, fy, fy, fy, fy, fy, fy, fy, fy, fy, fy, fy, fy, fy, fy, fy, fy] rfl rfl (tW_ HT_.out HW_.out (by kernel_rfl)) (fun _ _ _ h => h) (Or.inl ⟨by rfl, ?_⟩) hHeld ?_ ?_; rotate_left; (rintro w' ⟨s0, s1, s2⟩; go_simp; with_reducible rfl); rotate_left; (simp only [Act.put, sA_, sB_, sC_, i6_, i3_]; rfl)
         refine one_ (i := 3) (N := some 25) #[ty, ty, ty, ty, fy, fy, fy, fy, fy, fy, fy, fy, fy, fy, fy, fy, fy, fy, fy, fy, fy, fy, fy] rfl rfl (one_of HT_.out (by kernel_rfl)) (by decide) (fun K hK => ?_)
         refine goes_ Tryz.func67 (by kernel_rfl) rfl #[.int .i64 ((rd_T60 y312 x17_1).f1), .int .i64 0, .int .i64 x17_1] (by rfl) rfl rfl (by (try simp only [sD_, sE_, sF_]); rfl) ?_
         with_reducible refine (impl_in.calls ((rd_T60 y312 x17_1).f1) 0 x17_1 true _ A13.out).mono ?_
         rintro e w' ⟨rfl, ⟨nd, rfl⟩⟩
         refine ⟨_, rfl, ?_⟩
         refine hK.out _ _ ⟨(bC_ BK317.out 0).trans rfl, (bC_ BK317.out 1).trans rfl, (bC_ BK317.out 2).trans rfl⟩ (fun hHeld => ?_)
         clear hK K
         refine norm_ (a' := ?_) ?_ ?_; rotate_left; (show Act.put _ (some 25) _ = _; simp only [Act.put, sA_, sB_, sC_, i6_, i3_]; rfl)
         refine pure_ (i := 4) (N := some 26) (v := ?_) (a' := ?_) #[ty, ty, ty, ty, ty, fy, fy, fy, fy, fy, fy, fy, fy, fy, fy, fy, fy, fy, fy, fy, fy, fy, fy] rfl rfl (aO_ HT_.out (by kernel_rfl)) (fun _ _ _ h => h) (Or.inl ⟨by rfl, ?_⟩) ?_ ?_; rotate_left; (intro w'; go_simp; with_reducible rfl); rotate_left; (simp only [Act.put, sA_, sB_, sC_, i6_, i3_]; rfl)
         refine pure_ (i := 5) (N := some 27) (v := ?_) (a' := ?_) #[ty, ty, ty, ty, ty, ty, fy, fy, fy, fy, fy, fy, fy, fy, fy, fy, fy, fy, fy, fy, fy, fy, fy] rfl rfl (aO_ HT_.out (by kernel_rfl)) (fun _ _ _ h => h) (Or.inl ⟨by rfl, ?_⟩) ?_ ?_; rotate_left; (intro w'; go_simp; with_reducible rfl); rotate_left; (simp only [Act.put, sA_, sB_, sC_, i6_, i3_]; rfl)
         refine pure_ (i := 6) (N := some 28) (v := ?_) (a' := ?_) #[ty, ty, ty, ty, ty, ty, ty, fy, fy, fy, fy, fy, fy, fy, fy, fy, fy, fy, fy, fy, fy, fy, fy] rfl rfl (aO_ HT_.out (by kernel_rfl)) (fun _ _ _ h => h) (Or.inl ⟨by rfl, ?_⟩) ?_ ?_; rotate_left; (intro w'; go_simp; with_reducible rfl); rotate_left; (simp only [Act.put, sA_, sB_, sC_, i6_, i3_]; rfl)
         refine take_ (i := 7) (N := some 29) (v := ?_) (a' := ?_) #[ty, ty, ty, ty, ty, ty, ty, ty, fy, fy, fy, fy, fy, fy, fy, fy, fy, fy, fy, fy, fy, fy, fy] rfl rfl (tW_ HT_.out HW_.out (by kernel_rfl)) (fun _ _ _ h => h) (Or.inl ⟨by rfl, ?_⟩) hHeld ?_ ?_; rotate_left; (rintro w' ⟨s0, s1, s2⟩; go_simp; with_reducible rfl); rotate_left; (simp only [Act.put, sA_, sB_, sC_, i6_, i3_]; rfl)
         refine pure_ (i := 8) (N := some 30) (v := ?_) (a' := ?_) #[ty, ty, ty, ty, ty, ty, ty, ty, ty, fy, fy, fy, fy, fy, fy, fy, fy, fy, fy, fy, fy, fy, fy] rfl rfl (aO_ HT_.out (by kernel_rfl)) (fun _ _ _ h => h) (Or.inl ⟨by rfl, ?_⟩) ?_ ?_; rotate_left; (intro w'; go_simp; with_reducible rfl); rotate_left; (simp only [Act.put, sA_, sB_, sC_, i6_, i3_]; rfl)
         refine pure_ (i := 9) (N := some 31) (v := ?_) (a' := ?_) #[ty, ty, ty, ty, ty, ty, ty, ty, ty, ty, fy, fy, fy, fy, fy, fy, fy, fy, fy, fy, fy, fy, fy] rfl rfl (aO_ HT_.out (by kernel_rfl)) (fun _ _ _ h => h) (Or.inl ⟨by rfl, ?_⟩) ?_ ?_; rotate_left; (intro w'; go_simp; with_reducible rfl); rotate_left; (simp only [Act.put, sA_, sB_, sC_, i6_, i3_]; rfl)
         refine pure_ (i := 10) (N := some 32) (v := ?_) (a' := ?_) #[ty, ty, ty, ty, ty, ty, ty, ty, ty, ty, ty, fy, fy, fy, fy, fy, fy, fy, fy, fy, fy, fy, fy] rfl rfl (aO_ HT_.out (by kernel_rfl)) (fun _ _ _ h => h) (Or.inl ⟨by rfl, ?_⟩) ?_ ?_; rotate_left; (intro w'; go_simp; with_reducible rfl); rotate_left; (simp only [Act.put, sA_, sB_, sC_, i6_, i3_]; rfl)
         refine pure_ (i := 11) (N := some 33) (v := ?_) (a' := ?_) #[ty, ty, ty, ty, ty, ty, ty, ty, ty, ty, ty, ty, fy, fy, fy, fy, fy, fy, fy, fy, fy, fy, fy] rfl rfl (aO_ HT_.out (by kernel_rfl)) (fun _ _ _ h => h) (Or.inl ⟨by rfl, ?_⟩) ?_ ?_; rotate_left; (intro w'; go_simp; with_reducible rfl); rotate_left; (simp only [Act.put, sA_, sB_, sC_, i6_, i3_]; rfl)
         refine pure_ (i := 12) (N := some 34) (v := undef) (a' := ?_) #[ty, ty, ty, ty, ty, ty, ty, ty, ty, ty, ty, ty, ty, fy, fy, fy, fy, fy, fy, fy, fy, fy, fy] rfl rfl (aO_ HT_.out (by kernel_rfl)) (fun _ _ _ h => h) (Or.inr ⟨by rfl, rfl⟩) ?_ ?_
         rotate_left
         ·
          simp only [Act.put, sA_, sB_, sC_, i6_, i3_]
          rfl
         refine pure_ (i := 13) (N := some 35) (v := undef) (a' := ?_) #[ty, ty, ty, ty, ty, ty, ty, ty, ty, ty, ty, ty, ty, ty, fy, fy, fy, fy, fy, fy, fy, fy, fy] rfl rfl (aO_ HT_.out (by kernel_rfl)) (fun _ _ _ h => h) (Or.inr ⟨by rfl, rfl⟩) ?_ ?_
         rotate_left
         ·
          simp only [Act.put, sA_, sB_, sC_, i6_, i3_]
          rfl
         refine pure_ (i := 14) (N := some 36) (v := undef) (a' := ?_) #[ty, ty, ty, ty, ty, ty, ty, ty, ty, ty, ty, ty, ty, ty, ty, fy, fy, fy, fy, fy, fy, fy, fy] rfl rfl (aO_ HT_.out (by kernel_rfl)) (fun _ _ _ h => h) (Or.inr ⟨by rfl, rfl⟩) ?_ ?_
         rotate_left
         ·
          simp only [Act.put, sA_, sB_, sC_, i6_, i3_]
          rfl
         refine pure_ (i := 15) (N := some 37) (v := undef) (a' := ?_) #[ty, ty, ty, ty, ty, ty, ty, ty, ty, ty, ty, ty, ty, ty, ty, ty, fy, fy, fy, fy, fy, fy, fy] rfl rfl (aO_ HT_.out (by kernel_rfl)) (fun _ _ _ h => h) (Or.inr ⟨by rfl, rfl⟩) ?_ ?_
         rotate_left
         ·
          simp only [Act.put, sA_, sB_, sC_, i6_, i3_]
          rfl
         refine pure_ (i := 16) (N := some 38) (v := undef) (a' := ?_) #[ty, ty, ty, ty, ty, ty, ty, ty, ty, ty, ty, ty, ty, ty, ty, ty, ty, fy, fy, fy, fy, fy, fy] rfl rfl (aO_ HT_.out (by kernel_rfl)) (fun _ _ _ h => h) (Or.inr ⟨by rfl, rfl⟩) ?_ ?_
         rotate_left
         ·
          simp only [Act.put, sA_, sB_, sC_, i6_, i3_]
          rfl
         refine pure_ (i := 17) (N := some 39) (v := undef) (a' := ?_) #[ty, ty, ty, ty, ty, ty, ty, ty, ty, ty, ty, ty, ty, ty, ty, ty, ty, ty, fy, fy, fy, fy, fy] rfl rfl (aO_ HT_.out (by kernel_rfl)) (fun _ _ _ h => h) (Or.inr ⟨by rfl, rfl⟩) ?_ ?_
         rotate_left
         ·
          simp only [Act.put, sA_, sB_, sC_, i6_, i3_]
          rfl
         refine pure_ (i := 18) (N := some 40) (v := undef) (a' := ?_) #[ty, ty, ty, ty, ty, ty, ty, ty, ty, ty, ty, ty, ty, ty, ty, ty, ty, ty, ty, fy, fy, fy, fy] rfl rfl (aO_ HT_.out (by kernel_rfl)) (fun _ _ _ h => h) (Or.inr ⟨by rfl, rfl⟩) ?_ ?_
         rotate_left
         ·
          simp only [Act.put, sA_, sB_, sC_, i6_, i3_]
          rfl
         refine pure_ (i := 19) (N := some 41) (v := undef) (a' := ?_) #[ty, ty, ty, ty, ty, ty, ty, ty, ty, ty, ty, ty, ty, ty, ty, ty, ty, ty, ty, ty, fy, fy, fy] rfl rfl (aO_ HT_.out (by kernel_rfl)) (fun _ _ _ h => h) (Or.inr ⟨by rfl, rfl⟩) ?_ ?_
         rotate_left
         ·
          simp only [Act.put, sA_, sB_, sC_, i6_, i3_]
          rfl
         refine pure_ (i := 20) (N := some 42) (v := undef) (a' := ?_) #[ty, ty, ty, ty, ty, ty, ty, ty, ty, ty, ty, ty, ty, ty, ty, ty, ty, ty, ty, ty, ty, fy, fy] rfl rfl (aO_ HT_.out (by kernel_rfl)) (fun _ _ _ h => h) (Or.inr ⟨by rfl, rfl⟩) ?_ ?_
         rotate_left
         ·
          simp only [Act.put, sA_, sB_, sC_, i6_, i3_]
          rfl
         refine pure_ (i := 21) (N := some 43) (v := undef) (a' := ?_) #[ty, ty, ty, ty, ty, ty, ty, ty, ty, ty, ty, ty, ty, ty, ty, ty, ty, ty, ty, ty, ty, ty, fy] rfl rfl (aO_ HT_.out (by kernel_rfl)) (fun _ _ _ h => h) (Or.inr ⟨by rfl, rfl⟩) ?_ ?_
         rotate_left
         ·
          simp only [Act.put, sA_, sB_, sC_, i6_, i3_]
          rfl
         refine pure_ (i := 22) (N := some 44) (v := ?_) (a' := ?_) #[ty, ty, ty, ty, ty, ty, ty, ty, ty, ty, ty, ty, ty, ty, ty, ty, ty, ty, ty, ty, ty, ty, ty] rfl rfl (aO_ HT_.out (by kernel_rfl)) (fun _ _ _ h => h) (Or.inl ⟨by rfl, ?_⟩) ?_ ?_; rotate_left; (intro w'; go_simp; with_reducible rfl); rotate_left; (simp only [Act.put, sA_, sB_, sC_, i6_, i3_]; rfl)
         refine done_ (done_of HT_.out (by kernel_rfl)) ?_
         try go_wp2
         go_ret2
         exact ⟨_, by rfl, by exact Kd.R_nil _ _ _ _ _, by repeat (first | (with_reducible first | exact HB.out | apply bA_ | apply bN_ | apply bD_ | refine bS_ ?_ GE307.out | refine bS_ ?_ GE317.out) | exact HB.out)⟩
        ·
         rw [if_neg c15] at H
         have c15b0 := decide_eq_false c15
         have c15b1 : decide (12 < ((rd_T60 y312 x17_1).f0).size) = false := decide_eq_false (by omega)
         clear c15
         by_cases c21 : 0 ≤ ((rd_T60 y312 x17_1).f1)
         ·
          rw [if_pos c21] at H
          have c21b0 := decide_eq_true c21
          clear c21
          by_cases c22 : ((rd_T60 y312 x17_1).f1) < (x4_1.length : Int)
          ·
           rw [if_pos c22] at H
           have c22b0 := decide_eq_true c22
           clear c22
           by_cases c23 : (rdOf eB_ x4_1 ((rd_T60 y312 x17_1).f1)).size + ((rd_T60 y312 x17_1).f0).size ≤ 9223372036854775807
           ·
            rw [if_pos c23] at H
            have c23b0 := eq_true c23
            have c23b1 := decide_eq_true c23
            try have c23b2 : (9223372036854775807 < (rdOf eB_ x4_1 ((rd_T60 y312 x17_1).f1)).size + ((rd_T60 y312 x17_1).f0).size) = False := eq_false (Nat.not_lt.2 c23)
            replace H := oB_.mp H
            obtain ⟨t320, A240, H⟩ := H
            try dsimp only at H
            have A24 := aM_ A240
            clear A240
            by_cases c25 : t320 = true
            ·
             subst c25
             rw [if_pos rfl] at H
             by_cases c26 : x4_1.length < 8796093022208
             ·
              rw [if_pos c26] at H
              have LMc26 := aM_ c26
              clear c26
              obtain ⟨y322, hy322⟩ : ∃ y_ : List ByteArray, y_ = (x4_1 ++ [(rdOf eB_ x4_1 ((rd_T60 y312 x17_1).f1)) ++ ((rd_T60 y312 x17_1).f0)]) := ⟨_, rfl⟩
              replace H : (impl_Pressed_prefixes.l0 k1 y322 y312 (y312.length : Int) (wrap64 (x17_1 + 1))) = some (r1, r2) := by first | (rw [hy322]; with_reducible exact H) | (have H2_ := (Option.bind_some _ _).symm.trans H; rw [hy322]; with_reducible exact H2_) | (have H2_ := (Option.bind_some _ _).symm.trans H; with_reducible exact H2_) | with_reducible exact H | (rw [hy322]; exact H) | exact H
              have Ny322 := aM_ hy322
              clear hy322
              have H' := aM_ H
              clear H
              have p316 : 0 ≤ (x17_1 : Int) := of_decide_eq_true (by (with_reducible assumption))
              have q316 : x17_1 < (y312.length : Int) := of_decide_eq_true (by (with_reducible assumption))
              obtain ⟨ad316, e316, hx316_0, hx316_1, hx316_2⟩ := at_T60 HR315.out x17_1 p316 q316
              cases e316
              replace hx316_0 := (HB.out.cell (wB_ w _ hx316_0)).trans hx316_0
              replace hx316_1 := (HB.out.cell (wB_ w _ hx316_1)).trans hx316_1
              replace hx316_2 := (HB.out.cell (wB_ w _ hx316_2)).trans hx316_2
              replace p316 := eq_true p316
              replace q316 := eq_true q316
              try go_wp2_with (first | ((with_reducible refine gD_ (N := 6) rfl ?_); (try (refine gate_guard (by rfl) ?_; dsimp only)); refine bE_ ?hg (N := 6) ?hd (cs := #[.string (⟨#[]⟩ : ByteArray), .int .i64 0, .bool false]) (t := 60) ?hr ?_; (case hd => rfl); (case hg => rfl); (case hr => (go_simp; done)); intro gb317 hg w27 hbox hb; replace HO_4 := aM_ (kB_ HO_4.out hb); have BK317 := aM_ (hbox); have GW317 := aM_ ((by rw [hg]; exact (bZ_ HB.out) : w.heap.size ≤ gb317)); have GE317 := GW317; replace HB := aM_ (bT_ HB.out hb); have NB307_317 := aM_ ((by rw [hg]; exact Nat.ne_of_lt (bL_ BK307.out) : gb307 ≠ gb317)); have NB317_307 := aM_ NB307_317.out.symm; replace BK307 := aM_ (bB_ BK307.out hb); clear hb hbox hg; have hnb28 := NB317_307.out; have hnc28 := NB307_317.out; have hcz29_0 : w27.cell? ⟨gb317, 0, none⟩ = some (.string (⟨#[]⟩ : ByteArray)) := (bC_ BK317.out 0).trans rfl; have hcz29_1 : w27.cell? ⟨gb317, 1, none⟩ = some (.int .i64 0) := (bC_ BK317.out 1).trans rfl; have hcz29_2 : w27.cell? ⟨gb317, 2, none⟩ = some (.bool false) := (bC_ BK317.out 2).trans rfl; have hfz29_0 := bF_ BK317.out 0; have hfz29_1 := bF_ BK317.out 1; have hfz29_2 := bF_ BK317.out 2))
              have n0_ : Aside0 (Kd.R Kd.string 9 (((w27.setCell ⟨gb317, 0, none⟩ (.string ((rd_T60 y312 x17_1).f0))).setCell ⟨gb317, 1, none⟩ (.int .i64 ((rd_T60 y312 x17_1).f1))).setCell ⟨gb317, 2, none⟩ (.bool ((rd_T60 y312 x17_1).f2))) w.heap.size (fun _ => True) u4 x4_1) := ⟨by exact kM_ (kF_ (p := ⟨gb317, 2, none⟩) (kF_ (p := ⟨gb317, 1, none⟩) (kF_ (p := ⟨gb317, 0, none⟩) (kT_ HO_4.out BK317.out (by decide)) (fun _ hk => hk.2) (.string ((rd_T60 y312 x17_1).f0))) (fun _ hk => hk.2) (.int .i64 ((rd_T60 y312 x17_1).f1))) (fun _ hk => hk.2) (.bool ((rd_T60 y312 x17_1).f2))) (fun _ hk => trivial)⟩
              have n1_ : Aside0 ((((w27.setCell ⟨gb317, 0, none⟩ (.string ((rd_T60 y312 x17_1).f0))).setCell ⟨gb317, 1, none⟩ (.int .i64 ((rd_T60 y312 x17_1).f1))).setCell ⟨gb317, 2, none⟩ (.bool ((rd_T60 y312 x17_1).f2))).heap[gb307]? = some (.cells #[.slice A0_0 l0_0.length c0_0] 30 (0, 0))) := ⟨by refine bR_ ?_ NB307_317.out _; refine bR_ ?_ NB307_317.out _; refine bR_ ?_ NB307_317.out _; exact BK307.out⟩
              have n2_ : Aside0 ((((w27.setCell ⟨gb317, 0, none⟩ (.string ((rd_T60 y312 x17_1).f0))).setCell ⟨gb317, 1, none⟩ (.int .i64 ((rd_T60 y312 x17_1).f1))).setCell ⟨gb317, 2, none⟩ (.bool ((rd_T60 y312 x17_1).f2))).heap[gb317]? = some (.cells #[.string ((rd_T60 y312 x17_1).f0), .int .i64 ((rd_T60 y312 x17_1).f1), .bool ((rd_T60 y312 x17_1).f2)] 60 (0, 0))) := ⟨by refine bP_ (cs := #[.string ((rd_T60 y312 x17_1).f0), .int .i64 ((rd_T60 y312 x17_1).f1), .bool false]) ?_ 2 _ rfl; refine bP_ (cs := #[.string ((rd_T60 y312 x17_1).f0), .int .i64 0, .bool false]) ?_ 1 _ rfl; refine bP_ (cs := #[.string (⟨#[]⟩ : ByteArray), .int .i64 0, .bool false]) ?_ 0 _ rfl; exact BK317.out⟩
              have n3_ : Aside0 (Below w.heap.size w (((w27.setCell ⟨gb317, 0, none⟩ (.string ((rd_T60 y312 x17_1).f0))).setCell ⟨gb317, 1, none⟩ (.int .i64 ((rd_T60 y312 x17_1).f1))).setCell ⟨gb317, 2, none⟩ (.bool ((rd_T60 y312 x17_1).f2)))) := ⟨by repeat (first | (with_reducible first | exact HB.out | apply bA_ | apply bN_ | apply bD_ | refine bS_ ?_ GE307.out | refine bS_ ?_ GE317.out) | exact HB.out)⟩
              (try clear HO_4)
              (try clear BK307)
              (try clear BK317)
              (try clear HB)
              generalize (((w27.setCell ⟨gb317, 0, none⟩ (.string ((rd_T60 y312 x17_1).f0))).setCell ⟨gb317, 1, none⟩ (.int .i64 ((rd_T60 y312 x17_1).f1))).setCell ⟨gb317, 2, none⟩ (.bool ((rd_T60 y312 x17_1).f2))) = w30 at n0_ n1_ n2_ n3_ ⊢
              have HO_4 := n0_
              have BK307 := n1_
              have BK317 := n2_
              have HB := n3_
              clear n0_ n1_ n2_ n3_
              have n0_ := aM_ (k3_ HO_4.out)
              have n1_ := aM_ (b1_ BK307.out)
              have n2_ := aM_ (b1_ BK317.out)
              have n3_ := aM_ (bD_ HB.out)
              clear HO_4
              clear BK307
              clear BK317
              clear HB
              have HO_4 := n0_
              have BK307 := n1_
              have BK317 := n2_
              have HB := n3_
              clear n0_ n1_ n2_ n3_
              have p319 : 0 ≤ (((rd_T60 y312 x17_1).f1) : Int) := of_decide_eq_true (by (with_reducible assumption))
              have q319 : ((rd_T60 y312 x17_1).f1) < (x4_1.length : Int) := of_decide_eq_true (by (with_reducible assumption))
              obtain ⟨Ao32, co32, eo32⟩ := kS_ HO_4.out
              (subst eo32)
              obtain ⟨ad319, e319, hx319_0⟩ := Kd.at_string (kR_ HO_4.out).2.2 ((rd_T60 y312 x17_1).f1) p319 q319
              cases e319
              replace p319 := eq_true p319
              replace q319 := eq_true q319
              refine start_ (n := 23) (S := fun w' => w'.cell? ⟨gb317, 0, none⟩ = some (.string ((rd_T60 y312 x17_1).f0)) ∧ w'.cell? ⟨gb317, 1, none⟩ = some (.int .i64 ((rd_T60 y312 x17_1).f1)) ∧ w'.cell? ⟨gb317, 2, none⟩ = some (.bool ((rd_T60 y312 x17_1).f2)) ∧ w'.cell? (ad319.add (((rd_T60 y312 x17_1).f1)).toNat) = some (.string (rdOf eB_ x4_1 ((rd_T60 y312 x17_1).f1)))) (ds := []) #[fy, fy, fy, fy, fy, fy, fy, fy, fy, fy, fy, fy, fy, fy, fy, fy, fy, fy, fy, fy, fy, fy, fy] (by kernel_rfl) rfl rfl ⟨(bC_ BK317.out 0).trans rfl, (bC_ BK317.out 1).trans rfl, (bC_ BK317.out 2).trans rfl, hx319_0⟩ (fun hHeld => ?_); refine with_tabW impl_Pressed_prefixes.tab7 impl_Pressed_prefixes.bits7 (fun HT_ HW_ => ?_)
              generalize w30.drew = w31 at HO_4 BK307 BK317 HB hx319_0 hHeld ⊢
              refine pure_ (i := 0) (N := some 22) (v := ?_) (a' := ?_) #[ty, fy, fy, fy, fy, fy, fy, fy, fy, fy, fy, fy, fy, fy, fy, fy, fy, fy, fy, fy, fy, fy, fy] rfl rfl (aO_ HT_.out (by kernel_rfl)) (fun _ _ _ h => h) (Or.inl ⟨by rfl, ?_⟩) ?_ ?_; rotate_left; (intro w'; go_simp; with_reducible rfl); rotate_left; (simp only [Act.put, sA_, sB_, sC_, i6_, i3_]; rfl)
              refine pure_ (i := 2) (N := some 24) (v := ?_) (a' := ?_) #[ty, fy, ty, fy, fy, fy, fy, fy, fy, fy, fy, fy, fy, fy, fy, fy, fy, fy, fy, fy, fy, fy, fy] rfl rfl (aO_ HT_.out (by kernel_rfl)) (fun _ _ _ h => h) (Or.inl ⟨by rfl, ?_⟩) ?_ ?_; rotate_left; (intro w'; go_simp; with_reducible rfl); rotate_left; (simp only [Act.put, sA_, sB_, sC_, i6_, i3_]; rfl)
              refine take_ (i := 1) (N := some 23) (v := ?_) (a' := ?_) #[ty, ty, ty, fy, fy, fy, fy, fy, fy, fy, fy, fy, fy, fy, fy, fy, fy, fy, fy, fy, fy, fy, fy] rfl rfl (tW_ HT_.out HW_.out (by kernel_rfl)) (fun _ _ _ h => h) (Or.inl ⟨by rfl, ?_⟩) hHeld ?_ ?_; rotate_left; (rintro w' ⟨s0, s1, s2, s3⟩; go_simp; with_reducible rfl); rotate_left; (simp only [Act.put, sA_, sB_, sC_, i6_, i3_]; rfl)
              refine one_ (i := 3) (N := some 25) #[ty, ty, ty, ty, fy, fy, fy, fy, fy, fy, fy, fy, fy, fy, fy, fy, fy, fy, fy, fy, fy, fy, fy] rfl rfl (one_of HT_.out (by kernel_rfl)) (by decide) (fun K hK => ?_)
              refine goes_ Tryz.func67 (by kernel_rfl) rfl #[.int .i64 ((rd_T60 y312 x17_1).f1), .int .i64 0, .int .i64 x17_1] (by rfl) rfl rfl (by (try simp only [sD_, sE_, sF_]); rfl) ?_
              with_reducible refine (impl_in.calls ((rd_T60 y312 x17_1).f1) 0 x17_1 true _ A13.out).mono ?_
              rintro e w' ⟨rfl, ⟨nd, rfl⟩⟩
              refine ⟨_, rfl, ?_⟩
              refine hK.out _ _ ⟨(bC_ BK317.out 0).trans rfl, (bC_ BK317.out 1).trans rfl, (bC_ BK317.out 2).trans rfl, hHeld.2.2.2⟩ (fun hHeld => ?_)
              clear hK K
              refine norm_ (a' := ?_) ?_ ?_; rotate_left; (show Act.put _ (some 25) _ = _; simp only [Act.put, sA_, sB_, sC_, i6_, i3_]; rfl)
              refine pure_ (i := 4) (N := some 26) (v := ?_) (a' := ?_) #[ty, ty, ty, ty, ty, fy, fy, fy, fy, fy, fy, fy, fy, fy, fy, fy, fy, fy, fy, fy, fy, fy, fy] rfl rfl (aO_ HT_.out (by kernel_rfl)) (fun _ _ _ h => h) (Or.inl ⟨by rfl, ?_⟩) ?_ ?_; rotate_left; (intro w'; go_simp; with_reducible rfl); rotate_left; (simp only [Act.put, sA_, sB_, sC_, i6_, i3_]; rfl)
              refine pure_ (i := 5) (N := some 27) (v := ?_) (a' := ?_) #[ty, ty, ty, ty, ty, ty, fy, fy, fy, fy, fy, fy, fy, fy, fy, fy, fy, fy, fy, fy, fy, fy, fy] rfl rfl (aO_ HT_.out (by kernel_rfl)) (fun _ _ _ h => h) (Or.inl ⟨by rfl, ?_⟩) ?_ ?_; rotate_left; (intro w'; go_simp; with_reducible rfl); rotate_left; (simp only [Act.put, sA_, sB_, sC_, i6_, i3_]; rfl)
              refine pure_ (i := 6) (N := some 28) (v := ?_) (a' := ?_) #[ty, ty, ty, ty, ty, ty, ty, fy, fy, fy, fy, fy, fy, fy, fy, fy, fy, fy, fy, fy, fy, fy, fy] rfl rfl (aO_ HT_.out (by kernel_rfl)) (fun _ _ _ h => h) (Or.inl ⟨by rfl, ?_⟩) ?_ ?_; rotate_left; (intro w'; go_simp; with_reducible rfl); rotate_left; (simp only [Act.put, sA_, sB_, sC_, i6_, i3_]; rfl)
              refine take_ (i := 7) (N := some 29) (v := ?_) (a' := ?_) #[ty, ty, ty, ty, ty, ty, ty, ty, fy, fy, fy, fy, fy, fy, fy, fy, fy, fy, fy, fy, fy, fy, fy] rfl rfl (tW_ HT_.out HW_.out (by kernel_rfl)) (fun _ _ _ h => h) (Or.inl ⟨by rfl, ?_⟩) hHeld ?_ ?_; rotate_left; (rintro w' ⟨s0, s1, s2, s3⟩; go_simp; with_reducible rfl); rotate_left; (simp only [Act.put, sA_, sB_, sC_, i6_, i3_]; rfl)
              refine pure_ (i := 8) (N := some 30) (v := ?_) (a' := ?_) #[ty, ty, ty, ty, ty, ty, ty, ty, ty, fy, fy, fy, fy, fy, fy, fy, fy, fy, fy, fy, fy, fy, fy] rfl rfl (aO_ HT_.out (by kernel_rfl)) (fun _ _ _ h => h) (Or.inl ⟨by rfl, ?_⟩) ?_ ?_; rotate_left; (intro w'; go_simp; with_reducible rfl); rotate_left; (simp only [Act.put, sA_, sB_, sC_, i6_, i3_]; rfl)
              refine pure_ (i := 9) (N := some 31) (v := ?_) (a' := ?_) #[ty, ty, ty, ty, ty, ty, ty, ty, ty, ty, fy, fy, fy, fy, fy, fy, fy, fy, fy, fy, fy, fy, fy] rfl rfl (aO_ HT_.out (by kernel_rfl)) (fun _ _ _ h => h) (Or.inl ⟨by rfl, ?_⟩) ?_ ?_; rotate_left; (intro w'; go_simp; with_reducible rfl); rotate_left; (simp only [Act.put, sA_, sB_, sC_, i6_, i3_]; rfl)
              refine pure_ (i := 10) (N := some 32) (v := ?_) (a' := ?_) #[ty, ty, ty, ty, ty, ty, ty, ty, ty, ty, ty, fy, fy, fy, fy, fy, fy, fy, fy, fy, fy, fy, fy] rfl rfl (aO_ HT_.out (by kernel_rfl)) (fun _ _ _ h => h) (Or.inl ⟨by rfl, ?_⟩) ?_ ?_; rotate_left; (intro w'; go_simp; with_reducible rfl); rotate_left; (simp only [Act.put, sA_, sB_, sC_, i6_, i3_]; rfl)
              refine pure_ (i := 11) (N := some 33) (v := ?_) (a' := ?_) #[ty, ty, ty, ty, ty, ty, ty, ty, ty, ty, ty, ty, fy, fy, fy, fy, fy, fy, fy, fy, fy, fy, fy] rfl rfl (aO_ HT_.out (by kernel_rfl)) (fun _ _ _ h => h) (Or.inl ⟨by rfl, ?_⟩) ?_ ?_; rotate_left; (intro w'; go_simp; with_reducible rfl); rotate_left; (simp only [Act.put, sA_, sB_, sC_, i6_, i3_]; rfl)
              refine pure_ (i := 12) (N := some 34) (v := ?_) (a' := ?_) #[ty, ty, ty, ty, ty, ty, ty, ty, ty, ty, ty, ty, ty, fy, fy, fy, fy, fy, fy, fy, fy, fy, fy] rfl rfl (aO_ HT_.out (by kernel_rfl)) (fun _ _ _ h => h) (Or.inl ⟨by rfl, ?_⟩) ?_ ?_; rotate_left; (intro w'; go_simp; with_reducible rfl); rotate_left; (simp only [Act.put, sA_, sB_, sC_, i6_, i3_]; rfl)
              refine pure_ (i := 13) (N := some 35) (v := ?_) (a' := ?_) #[ty, ty, ty, ty, ty, ty, ty, ty, ty, ty, ty, ty, ty, ty, fy, fy, fy, fy, fy, fy, fy, fy, fy] rfl rfl (aO_ HT_.out (by kernel_rfl)) (fun _ _ _ h => h) (Or.inl ⟨by rfl, ?_⟩) ?_ ?_; rotate_left; (intro w'; go_simp; with_reducible rfl); rotate_left; (simp only [Act.put, sA_, sB_, sC_, i6_, i3_]; rfl)
              refine pure_ (i := 17) (N := some 39) (v := ?_) (a' := ?_) #[ty, ty, ty, ty, ty, ty, ty, ty, ty, ty, ty, ty, ty, ty, fy, fy, fy, ty, fy, fy, fy, fy, fy] rfl rfl (aO_ HT_.out (by kernel_rfl)) (fun _ _ _ h => h) (Or.inl ⟨by rfl, ?_⟩) ?_ ?_; rotate_left; (intro w'; go_simp; with_reducible rfl); rotate_left; (simp only [Act.put, sA_, sB_, sC_, i6_, i3_]; rfl)
              refine take_ (i := 14) (N := some 36) (v := ?_) (a' := ?_) #[ty, ty, ty, ty, ty, ty, ty, ty, ty, ty, ty, ty, ty, ty, ty, fy, fy, ty, fy, fy, fy, fy, fy] rfl rfl (tW_ HT_.out HW_.out (by kernel_rfl)) (fun _ _ _ h => h) (Or.inl ⟨by rfl, ?_⟩) hHeld ?_ ?_; rotate_left; (rintro w' ⟨s0, s1, s2, s3⟩; go_simp; with_reducible rfl); rotate_left; (simp only [Act.put, sA_, sB_, sC_, i6_, i3_]; rfl)
              refine pure_ (i := 15) (N := some 37) (v := ?_) (a' := ?_) #[ty, ty, ty, ty, ty, ty, ty, ty, ty, ty, ty, ty, ty, ty, ty, ty, fy, ty, fy, fy, fy, fy, fy] rfl rfl (aO_ HT_.out (by kernel_rfl)) (fun _ _ _ h => h) (Or.inl ⟨by rfl, ?_⟩) ?_ ?_; rotate_left; (intro w'; go_simp; with_reducible rfl); rotate_left; (simp only [Act.put, sA_, sB_, sC_, i6_, i3_]; rfl)
              refine take_ (i := 16) (N := some 38) (v := ?_) (a' := ?_) #[ty, ty, ty, ty, ty, ty, ty, ty, ty, ty, ty, ty, ty, ty, ty, ty, ty, ty, fy, fy, fy, fy, fy] rfl rfl (tW_ HT_.out HW_.out (by kernel_rfl)) (fun _ _ _ h => h) (Or.inl ⟨by rfl, ?_⟩) hHeld ?_ ?_; rotate_left; (rintro w' ⟨s0, s1, s2, s3⟩; go_simp; with_reducible rfl); rotate_left; (simp only [Act.put, sA_, sB_, sC_, i6_, i3_]; rfl)
              refine take_ (i := 18) (N := some 40) (v := ?_) (a' := ?_) #[ty, ty, ty, ty, ty, ty, ty, ty, ty, ty, ty, ty, ty, ty, ty, ty, ty, ty, ty, fy, fy, fy, fy] rfl rfl (tW_ HT_.out HW_.out (by kernel_rfl)) (fun _ _ _ h => h) (Or.inl ⟨by rfl, ?_⟩) hHeld ?_ ?_; rotate_left; (rintro w' ⟨s0, s1, s2, s3⟩; go_simp; with_reducible rfl); rotate_left; (simp only [Act.put, sA_, sB_, sC_, i6_, i3_]; rfl)
              refine pure_ (i := 19) (N := some 41) (v := ?_) (a' := ?_) #[ty, ty, ty, ty, ty, ty, ty, ty, ty, ty, ty, ty, ty, ty, ty, ty, ty, ty, ty, ty, fy, fy, fy] rfl rfl (aO_ HT_.out (by kernel_rfl)) (fun _ _ _ h => h) (Or.inl ⟨by rfl, ?_⟩) ?_ ?_; rotate_left; (intro w'; go_simp; with_reducible rfl); rotate_left; (simp only [Act.put, sA_, sB_, sC_, i6_, i3_]; rfl)
              refine one_ (i := 20) (N := some 42) #[ty, ty, ty, ty, ty, ty, ty, ty, ty, ty, ty, ty, ty, ty, ty, ty, ty, ty, ty, ty, ty, fy, fy] rfl rfl (one_of HT_.out (by kernel_rfl)) (by decide) (fun K hK => ?_)
              refine goes_ Tryz.func34 (by kernel_rfl) rfl #[.string ((rdOf eB_ x4_1 ((rd_T60 y312 x17_1).f1)) ++ ((rd_T60 y312 x17_1).f0))] (by rfl) rfl rfl (by (try simp only [sD_, sE_, sF_]); rfl) ?_
              with_reducible refine (impl_isWord.calls ((rdOf eB_ x4_1 ((rd_T60 y312 x17_1).f1)) ++ ((rd_T60 y312 x17_1).f0)) true _ A24.out).mono ?_
              rintro e w33 ⟨rfl, hb⟩
              have HS3_ := (hb.cell (wB_ _ _ (hHeld.2.2.2))).trans (hHeld.2.2.2)
              refine ⟨_, rfl, ?_⟩
              have n0_ := aM_ (kB_ (by (with_reducible repeat (first | apply k1_ | apply k2_ | apply k3_)); exact HO_4.out) hb)
              have n1_ := aM_ (bB_ (g := gb307) (o := .cells #[.slice A0_0 l0_0.length c0_0] 30 (0, 0)) (by (with_reducible repeat (first | refine b2_ ?_ _ | refine b1_ ?_ | refine b3_ ?_ _)); exact BK307.out) hb)
              have n2_ := aM_ (bB_ (g := gb317) (o := .cells #[.string ((rd_T60 y312 x17_1).f0), .int .i64 ((rd_T60 y312 x17_1).f1), .bool ((rd_T60 y312 x17_1).f2)] 60 (0, 0)) (by (with_reducible repeat (first | refine b2_ ?_ _ | refine b1_ ?_ | refine b3_ ?_ _)); exact BK317.out) hb)
              have n3_ := aM_ (bT_ (by repeat (first | (with_reducible first | exact HB.out | apply bA_ | apply bN_ | apply bD_ | refine bS_ ?_ GE307.out | refine bS_ ?_ GE317.out) | exact HB.out)) hb)
              clear HO_4
              clear BK307
              clear BK317
              clear HB
              have HO_4 := n0_
              have BK307 := n1_
              have BK317 := n2_
              have HB := n3_
              clear n0_ n1_ n2_ n3_
              (try clear hb)
              refine hK.out _ _ ⟨(bC_ BK317.out 0).trans rfl, (bC_ BK317.out 1).trans rfl, (bC_ BK317.out 2).trans rfl, HS3_⟩ (fun hHeld => ?_)
              clear hK K
              refine norm_ (a' := ?_) ?_ ?_; rotate_left; (show Act.put _ (some 42) _ = _; simp only [Act.put, sA_, sB_, sC_, i6_, i3_]; rfl)
              refine pure_ (i := 21) (N := some 43) (v := ?_) (a' := ?_) #[ty, ty, ty, ty, ty, ty, ty, ty, ty, ty, ty, ty, ty, ty, ty, ty, ty, ty, ty, ty, ty, ty, fy] rfl rfl (aO_ HT_.out (by kernel_rfl)) (fun _ _ _ h => h) (Or.inl ⟨by rfl, ?_⟩) ?_ ?_; rotate_left; (intro w'; go_simp; with_reducible rfl); rotate_left; (simp only [Act.put, sA_, sB_, sC_, i6_, i3_]; rfl)
              refine pure_ (i := 22) (N := some 44) (v := ?_) (a' := ?_) #[ty, ty, ty, ty, ty, ty, ty, ty, ty, ty, ty, ty, ty, ty, ty, ty, ty, ty, ty, ty, ty, ty, ty] rfl rfl (aO_ HT_.out (by kernel_rfl)) (fun _ _ _ h => h) (Or.inl ⟨by rfl, ?_⟩) ?_ ?_; rotate_left; (intro w'; go_simp; with_reducible rfl); rotate_left; (simp only [Act.put, sA_, sB_, sC_, i6_, i3_]; rfl)
              refine done_ (done_of HT_.out (by kernel_rfl)) ?_
              try go_wp2
              have n0_ := aM_ (k3_ HO_4.out)
              have n1_ := aM_ (b1_ BK307.out)
              have n2_ := aM_ (b1_ BK317.out)
              have n3_ := aM_ (bD_ HB.out)
              clear HO_4
              clear BK307
              clear BK317
              clear HB
              have HO_4 := n0_
              have BK307 := n1_
              have BK317 := n2_
              have HB := n3_
              clear n0_ n1_ n2_ n3_
              have p321 : 0 ≤ (((rd_T60 y312 x17_1).f1) : Int) := of_decide_eq_true (by (with_reducible assumption))
              have q321 : ((rd_T60 y312 x17_1).f1) < (x4_1.length : Int) := of_decide_eq_true (by (with_reducible assumption))
              obtain ⟨ad321, e321, hx321_0⟩ := Kd.at_string (kR_ HO_4.out).2.2 ((rd_T60 y312 x17_1).f1) p321 q321
              obtain rfl : ad319 = ad321 := (by injection e321)
              replace p321 := eq_true p321
              replace q321 := eq_true q321
              refine start_ (n := 12) (S := fun w' => w'.cell? ⟨gb317, 0, none⟩ = some (.string ((rd_T60 y312 x17_1).f0)) ∧ w'.cell? ⟨gb317, 1, none⟩ = some (.int .i64 ((rd_T60 y312 x17_1).f1)) ∧ w'.cell? ⟨gb317, 2, none⟩ = some (.bool ((rd_T60 y312 x17_1).f2)) ∧ w'.cell? (ad319.add (((rd_T60 y312 x17_1).f1)).toNat) = some (.string (rdOf eB_ x4_1 ((rd_T60 y312 x17_1).f1)))) (ds := [9, 10]) #[fy, fy, fy, fy, fy, fy, fy, fy, fy, fy, fy, fy] (by kernel_rfl) rfl rfl ⟨(bC_ BK317.out 0).trans rfl, (bC_ BK317.out 1).trans rfl, (bC_ BK317.out 2).trans rfl, hx321_0⟩ (fun hHeld => ?_); refine with_tabW impl_Pressed_prefixes.tab9 impl_Pressed_prefixes.bits9 (fun HT_ HW_ => ?_)
              generalize w33.drew = w34 at HO_4 BK307 BK317 HB hx321_0 hHeld ⊢
              refine pure_ (i := 0) (N := some 45) (v := ?_) (a' := ?_) #[ty, fy, fy, fy, fy, fy, fy, fy, fy, fy, fy, fy] rfl rfl (aO_ HT_.out (by kernel_rfl)) (fun _ _ _ h => h) (Or.inl ⟨by rfl, ?_⟩) ?_ ?_; rotate_left; (intro w'; go_simp; with_reducible rfl); rotate_left; (simp only [Act.put, sA_, sB_, sC_, i6_, i3_]; rfl)
              refine pure_ (i := 1) (N := some 46) (v := ?_) (a' := ?_) #[ty, ty, fy, fy, fy, fy, fy, fy, fy, fy, fy, fy] rfl rfl (aO_ HT_.out (by kernel_rfl)) (fun _ _ _ h => h) (Or.inl ⟨by rfl, ?_⟩) ?_ ?_; rotate_left; (intro w'; go_simp; with_reducible rfl); rotate_left; (simp only [Act.put, sA_, sB_, sC_, i6_, i3_]; rfl)
              refine pure_ (i := 2) (N := some 47) (v := ?_) (a' := ?_) #[ty, ty, ty, fy, fy, fy, fy, fy, fy, fy, fy, fy] rfl rfl (aO_ HT_.out (by kernel_rfl)) (fun _ _ _ h => h) (Or.inl ⟨by rfl, ?_⟩) ?_ ?_; rotate_left; (intro w'; go_simp; with_reducible rfl); rotate_left; (simp only [Act.put, sA_, sB_, sC_, i6_, i3_]; rfl)
              refine pure_ (i := 6) (N := some 51) (v := ?_) (a' := ?_) #[ty, ty, ty, fy, fy, fy, ty, fy, fy, fy, fy, fy] rfl rfl (aO_ HT_.out (by kernel_rfl)) (fun _ _ _ h => h) (Or.inl ⟨by rfl, ?_⟩) ?_ ?_; rotate_left; (intro w'; go_simp; with_reducible rfl); rotate_left; (simp only [Act.put, sA_, sB_, sC_, i6_, i3_]; rfl)
              refine take_ (i := 3) (N := some 48) (v := ?_) (a' := ?_) #[ty, ty, ty, ty, fy, fy, ty, fy, fy, fy, fy, fy] rfl rfl (tW_ HT_.out HW_.out (by kernel_rfl)) (fun _ _ _ h => h) (Or.inl ⟨by rfl, ?_⟩) hHeld ?_ ?_; rotate_left; (rintro w' ⟨s0, s1, s2, s3⟩; go_simp; with_reducible rfl); rotate_left; (simp only [Act.put, sA_, sB_, sC_, i6_, i3_]; rfl)
              refine pure_ (i := 4) (N := some 49) (v := ?_) (a' := ?_) #[ty, ty, ty, ty, ty, fy, ty, fy, fy, fy, fy, fy] rfl rfl (aO_ HT_.out (by kernel_rfl)) (fun _ _ _ h => h) (Or.inl ⟨by rfl, ?_⟩) ?_ ?_; rotate_left; (intro w'; go_simp; with_reducible rfl); rotate_left; (simp only [Act.put, sA_, sB_, sC_, i6_, i3_]; rfl)
              refine take_ (i := 5) (N := some 50) (v := ?_) (a' := ?_) #[ty, ty, ty, ty, ty, ty, ty, fy, fy, fy, fy, fy] rfl rfl (tW_ HT_.out HW_.out (by kernel_rfl)) (fun _ _ _ h => h) (Or.inl ⟨by rfl, ?_⟩) hHeld ?_ ?_; rotate_left; (rintro w' ⟨s0, s1, s2, s3⟩; go_simp; with_reducible rfl); rotate_left; (simp only [Act.put, sA_, sB_, sC_, i6_, i3_]; rfl)
              refine take_ (i := 7) (N := some 52) (v := ?_) (a' := ?_) #[ty, ty, ty, ty, ty, ty, ty, ty, fy, fy, fy, fy] rfl rfl (tW_ HT_.out HW_.out (by kernel_rfl)) (fun _ _ _ h => h) (Or.inl ⟨by rfl, ?_⟩) hHeld ?_ ?_; rotate_left; (rintro w' ⟨s0, s1, s2, s3⟩; go_simp; with_reducible rfl); rotate_left; (simp only [Act.put, sA_, sB_, sC_, i6_, i3_]; rfl)
              refine pure_ (i := 8) (N := some 53) (v := ?_) (a' := ?_) #[ty, ty, ty, ty, ty, ty, ty, ty, ty, fy, fy, fy] rfl rfl (aO_ HT_.out (by kernel_rfl)) (fun _ _ _ h => h) (Or.inl ⟨by rfl, ?_⟩) ?_ ?_; rotate_left; (intro w'; go_simp; with_reducible rfl); rotate_left; (simp only [Act.put, sA_, sB_, sC_, i6_, i3_]; rfl)
              refine last_ (i := 9) (N := some 54) #[ty, ty, ty, ty, ty, ty, ty, ty, ty, ty, fy, fy] rfl rfl (one_of HT_.out (by kernel_rfl)) (by decide) (fun K hK => ?_)
              refine value_ (w1 := ?_) (v := ?_) (by rfl) rfl ?_ ?_
              rotate_left 2
              ·
               go_simp
               constructor
               ·
                rfl
               ·
                rfl
              refine hK.out _ _ ?_
              clear hK K
              refine norm_ (a' := ?_) ?_ ?_; rotate_left; (show Act.put _ (some 54) _ = _; simp only [Act.put, sA_, sB_, sC_, i6_, i3_]; rfl)
              refine last_ (i := 10) (N := some 55) #[ty, ty, ty, ty, ty, ty, ty, ty, ty, ty, ty, fy] rfl rfl (one_of HT_.out (by kernel_rfl)) (by decide) (fun K hK => ?_)
              refine Kd.R_append_step Kd.string (w0 := w) w.heap.size (by rfl) (.tmp 45) (.tmp 54) 49 9 (.string ⟨#[]⟩) 16 rfl Tryz.underlying49 info9 rfl (by decide) (by omega) (.slice (some ad319) x4_1.length co32) x4_1 ((rdOf eB_ x4_1 ((rd_T60 y312 x17_1).f1)) ++ ((rd_T60 y312 x17_1).f0)) [.string ((rdOf eB_ x4_1 ((rd_T60 y312 x17_1).f1)) ++ ((rd_T60 y312 x17_1).f0))] (fun _ => True) (fun _ => False) rfl rfl ?aP (fun _ hk => hk.elim) ?aF ?aO ?aB ?aS ?aL ?_
              (case aP => exact rfl)
              (case aB => exact HB.out)
              (case aF => exact (fun _ _ => trivial))
              (case aO => exact HO_4.out)
              (case aS => exact (bZ_ HB.out))
              (case aL => have := LMc26.out; omega)
              intro v323 w35 ho hb hg hat
              rw [← Ny322.out] at ho
              have n0_ := aM_ (blk_grown (g := gb307) (o := .cells #[.slice A0_0 l0_0.length c0_0] 30 (0, 0)) BK307.out hg (k6_ HO_4.out BK307.out (by decide)))
              have n1_ := aM_ (blk_grown (g := gb317) (o := .cells #[.string ((rd_T60 y312 x17_1).f0), .int .i64 ((rd_T60 y312 x17_1).f1), .bool ((rd_T60 y312 x17_1).f2)] 60 (0, 0)) BK317.out hg (k6_ HO_4.out BK317.out (by decide)))
              have n2_ := aM_ (hb)
              have n3_ := aM_ (ho)
              clear BK307
              clear BK317
              clear HB
              clear HO_4
              have BK307 := n0_
              have BK317 := n1_
              have HB := n2_
              have HO324 := n3_
              clear n0_ n1_ n2_ n3_
              clear ho hb hg hat
              refine hK.out _ _ ?_
              clear hK K
              refine norm_ (a' := ?_) ?_ ?_; rotate_left; (show Act.put _ (some 55) _ = _; simp only [Act.put, sA_, sB_, sC_, i6_, i3_]; rfl)
              refine pure_ (i := 11) (N := some 4) (v := ?_) (a' := ?_) #[ty, ty, ty, ty, ty, ty, ty, ty, ty, ty, ty, ty] rfl rfl (aO_ HT_.out (by kernel_rfl)) (fun _ _ _ h => h) (Or.inl ⟨by rfl, ?_⟩) ?_ ?_; rotate_left; (intro w'; go_simp; with_reducible rfl); rotate_left; (simp only [Act.put, sA_, sB_, sC_, i6_, i3_]; rfl)
              refine done_ (done_of HT_.out (by kernel_rfl)) ?_
              try go_wp2
              go_roundg k1
              case measure => have := HK1.out; omega
              case rel => exact ⟨(y322), (wrap64 (x17_1 + 1)), (by rfl), H', ⟨by have := HK1.out; omega⟩, ⟨HO324.out⟩, ⟨BK307.out⟩, ⟨HB.out⟩⟩
             ·
              rw [if_neg c26] at H
              exact absurd H (by simp)
            ·
             replace c25 := Bool.eq_false_iff.mpr c25
             subst c25
             have H1 : (some (([] : List ByteArray), false)) = some (r1, r2) := by rw [if_neg (show ¬ (false = true) by decide)] at H; exact H
             clear H
             have H := H1
             clear H1
             simp only [Option.some.injEq, Prod.mk.injEq] at H
             obtain ⟨rfl, rfl⟩ := H
             have p316 : 0 ≤ (x17_1 : Int) := of_decide_eq_true (by (with_reducible assumption))
             have q316 : x17_1 < (y312.length : Int) := of_decide_eq_true (by (with_reducible assumption))
             obtain ⟨ad316, e316, hx316_0, hx316_1, hx316_2⟩ := at_T60 HR315.out x17_1 p316 q316
             cases e316
             replace hx316_0 := (HB.out.cell (wB_ w _ hx316_0)).trans hx316_0
             replace hx316_1 := (HB.out.cell (wB_ w _ hx316_1)).trans hx316_1
             replace hx316_2 := (HB.out.cell (wB_ w _ hx316_2)).trans hx316_2
             replace p316 := eq_true p316
             replace q316 := eq_true q316
             try go_wp2_with (first | ((with_reducible refine gD_ (N := 6) rfl ?_); (try (refine gate_guard (by rfl) ?_; dsimp only)); refine bE_ ?hg (N := 6) ?hd (cs := #[.string (⟨#[]⟩ : ByteArray), .int .i64 0, .bool false]) (t := 60) ?hr ?_; (case hd => rfl); (case hg => rfl); (case hr => (go_simp; done)); intro gb317 hg w36 hbox hb; replace HO_4 := aM_ (kB_ HO_4.out hb); have BK317 := aM_ (hbox); have GW317 := aM_ ((by rw [hg]; exact (bZ_ HB.out) : w.heap.size ≤ gb317)); have GE317 := GW317; replace HB := aM_ (bT_ HB.out hb); have NB307_317 := aM_ ((by rw [hg]; exact Nat.ne_of_lt (bL_ BK307.out) : gb307 ≠ gb317)); have NB317_307 := aM_ NB307_317.out.symm; replace BK307 := aM_ (bB_ BK307.out hb); clear hb hbox hg; have hnb37 := NB317_307.out; have hnc37 := NB307_317.out; have hcz38_0 : w36.cell? ⟨gb317, 0, none⟩ = some (.string (⟨#[]⟩ : ByteArray)) := (bC_ BK317.out 0).trans rfl; have hcz38_1 : w36.cell? ⟨gb317, 1, none⟩ = some (.int .i64 0) := (bC_ BK317.out 1).trans rfl; have hcz38_2 : w36.cell? ⟨gb317, 2, none⟩ = some (.bool false) := (bC_ BK317.out 2).trans rfl; have hfz38_0 := bF_ BK317.out 0; have hfz38_1 := bF_ BK317.out 1; have hfz38_2 := bF_ BK317.out 2))
             have n0_ : Aside0 (Kd.R Kd.string 9 (((w36.setCell ⟨gb317, 0, none⟩ (.string ((rd_T60 y312 x17_1).f0))).setCell ⟨gb317, 1, none⟩ (.int .i64 ((rd_T60 y312 x17_1).f1))).setCell ⟨gb317, 2, none⟩ (.bool ((rd_T60 y312 x17_1).f2))) w.heap.size (fun _ => True) u4 x4_1) := ⟨by exact kM_ (kF_ (p := ⟨gb317, 2, none⟩) (kF_ (p := ⟨gb317, 1, none⟩) (kF_ (p := ⟨gb317, 0, none⟩) (kT_ HO_4.out BK317.out (by decide)) (fun _ hk => hk.2) (.string ((rd_T60 y312 x17_1).f0))) (fun _ hk => hk.2) (.int .i64 ((rd_T60 y312 x17_1).f1))) (fun _ hk => hk.2) (.bool ((rd_T60 y312 x17_1).f2))) (fun _ hk => trivial)⟩
             have n1_ : Aside0 ((((w36.setCell ⟨gb317, 0, none⟩ (.string ((rd_T60 y312 x17_1).f0))).setCell ⟨gb317, 1, none⟩ (.int .i64 ((rd_T60 y312 x17_1).f1))).setCell ⟨gb317, 2, none⟩ (.bool ((rd_T60 y312 x17_1).f2))).heap[gb307]? = some (.cells #[.slice A0_0 l0_0.length c0_0] 30 (0, 0))) := ⟨by refine bR_ ?_ NB307_317.out _; refine bR_ ?_ NB307_317.out _; refine bR_ ?_ NB307_317.out _; exact BK307.out⟩
             have n2_ : Aside0 ((((w36.setCell ⟨gb317, 0, none⟩ (.string ((rd_T60 y312 x17_1).f0))).setCell ⟨gb317, 1, none⟩ (.int .i64 ((rd_T60 y312 x17_1).f1))).setCell ⟨gb317, 2, none⟩ (.bool ((rd_T60 y312 x17_1).f2))).heap[gb317]? = some (.cells #[.string ((rd_T60 y312 x17_1).f0), .int .i64 ((rd_T60 y312 x17_1).f1), .bool ((rd_T60 y312 x17_1).f2)] 60 (0, 0))) := ⟨by refine bP_ (cs := #[.string ((rd_T60 y312 x17_1).f0), .int .i64 ((rd_T60 y312 x17_1).f1), .bool false]) ?_ 2 _ rfl; refine bP_ (cs := #[.string ((rd_T60 y312 x17_1).f0), .int .i64 0, .bool false]) ?_ 1 _ rfl; refine bP_ (cs := #[.string (⟨#[]⟩ : ByteArray), .int .i64 0, .bool false]) ?_ 0 _ rfl; exact BK317.out⟩
             have n3_ : Aside0 (Below w.heap.size w (((w36.setCell ⟨gb317, 0, none⟩ (.string ((rd_T60 y312 x17_1).f0))).setCell ⟨gb317, 1, none⟩ (.int .i64 ((rd_T60 y312 x17_1).f1))).setCell ⟨gb317, 2, none⟩ (.bool ((rd_T60 y312 x17_1).f2)))) := ⟨by repeat (first | (with_reducible first | exact HB.out | apply bA_ | apply bN_ | apply bD_ | refine bS_ ?_ GE307.out | refine bS_ ?_ GE317.out) | exact HB.out)⟩
             (try clear HO_4)
             (try clear BK307)
             (try clear BK317)
             (try clear HB)
             generalize (((w36.setCell ⟨gb317, 0, none⟩ (.string ((rd_T60 y312 x17_1).f0))).setCell ⟨gb317, 1, none⟩ (.int .i64 ((rd_T60 y312 x17_1).f1))).setCell ⟨gb317, 2, none⟩ (.bool ((rd_T60 y312 x17_1).f2))) = w39 at n0_ n1_ n2_ n3_ ⊢
             have HO_4 := n0_
             have BK307 := n1_
             have BK317 := n2_
             have HB := n3_
             clear n0_ n1_ n2_ n3_
             have n0_ := aM_ (k3_ HO_4.out)
             have n1_ := aM_ (b1_ BK307.out)
             have n2_ := aM_ (b1_ BK317.out)
             have n3_ := aM_ (bD_ HB.out)
             clear HO_4
             clear BK307
             clear BK317
             clear HB
             have HO_4 := n0_
             have BK307 := n1_
             have BK317 := n2_
             have HB := n3_
             clear n0_ n1_ n2_ n3_
             have p319 : 0 ≤ (((rd_T60 y312 x17_1).f1) : Int) := of_decide_eq_true (by (with_reducible assumption))
             have q319 : ((rd_T60 y312 x17_1).f1) < (x4_1.length : Int) := of_decide_eq_true (by (with_reducible assumption))
             obtain ⟨Ao41, co41, eo41⟩ := kS_ HO_4.out
             (subst eo41)
             obtain ⟨ad319, e319, hx319_0⟩ := Kd.at_string (kR_ HO_4.out).2.2 ((rd_T60 y312 x17_1).f1) p319 q319
             cases e319
             replace p319 := eq_true p319
             replace q319 := eq_true q319
             refine start_ (n := 23) (S := fun w' => w'.cell? ⟨gb317, 0, none⟩ = some (.string ((rd_T60 y312 x17_1).f0)) ∧ w'.cell? ⟨gb317, 1, none⟩ = some (.int .i64 ((rd_T60 y312 x17_1).f1)) ∧ w'.cell? ⟨gb317, 2, none⟩ = some (.bool ((rd_T60 y312 x17_1).f2)) ∧ w'.cell? (ad319.add (((rd_T60 y312 x17_1).f1)).toNat) = some (.string (rdOf eB_ x4_1 ((rd_T60 y312 x17_1).f1)))) (ds := []) #[fy, fy, fy, fy, fy, fy, fy, fy, fy, fy, fy, fy, fy, fy, fy, fy, fy, fy, fy, fy, fy, fy, fy] (by kernel_rfl) rfl rfl ⟨(bC_ BK317.out 0).trans rfl, (bC_ BK317.out 1).trans rfl, (bC_ BK317.out 2).trans rfl, hx319_0⟩ (fun hHeld => ?_); refine with_tabW impl_Pressed_prefixes.tab7 impl_Pressed_prefixes.bits7 (fun HT_ HW_ => ?_)
             generalize w39.drew = w40 at HO_4 BK307 BK317 HB hx319_0 hHeld ⊢
             refine pure_ (i := 0) (N := some 22) (v := ?_) (a' := ?_) #[ty, fy, fy, fy, fy, fy, fy, fy, fy, fy, fy, fy, fy, fy, fy, fy, fy, fy, fy, fy, fy, fy, fy] rfl rfl (aO_ HT_.out (by kernel_rfl)) (fun _ _ _ h => h) (Or.inl ⟨by rfl, ?_⟩) ?_ ?_; rotate_left; (intro w'; go_simp; with_reducible rfl); rotate_left; (simp only [Act.put, sA_, sB_, sC_, i6_, i3_]; rfl)
             refine pure_ (i := 2) (N := some 24) (v := ?_) (a' := ?_) #[ty, fy, ty, fy, fy, fy, fy, fy, fy, fy, fy, fy, fy, fy, fy, fy, fy, fy, fy, fy, fy, fy, fy] rfl rfl (aO_ HT_.out (by kernel_rfl)) (fun _ _ _ h => h) (Or.inl ⟨by rfl, ?_⟩) ?_ ?_; rotate_left; (intro w'; go_simp; with_reducible rfl); rotate_left; (simp only [Act.put, sA_, sB_, sC_, i6_, i3_]; rfl)
             refine take_ (i := 1) (N := some 23) (v := ?_) (a' := ?_) #[ty, ty, ty, fy, fy, fy, fy, fy, fy, fy, fy, fy, fy, fy, fy, fy, fy, fy, fy, fy, fy, fy, fy] rfl rfl (tW_ HT_.out HW_.out (by kernel_rfl)) (fun _ _ _ h => h) (Or.inl ⟨by rfl, ?_⟩) hHeld ?_ ?_; rotate_left; (rintro w' ⟨s0, s1, s2, s3⟩; go_simp; with_reducible rfl); rotate_left; (simp only [Act.put, sA_, sB_, sC_, i6_, i3_]; rfl)
             refine one_ (i := 3) (N := some 25) #[ty, ty, ty, ty, fy, fy, fy, fy, fy, fy, fy, fy, fy, fy, fy, fy, fy, fy, fy, fy, fy, fy, fy] rfl rfl (one_of HT_.out (by kernel_rfl)) (by decide) (fun K hK => ?_)
             refine goes_ Tryz.func67 (by kernel_rfl) rfl #[.int .i64 ((rd_T60 y312 x17_1).f1), .int .i64 0, .int .i64 x17_1] (by rfl) rfl rfl (by (try simp only [sD_, sE_, sF_]); rfl) ?_
             with_reducible refine (impl_in.calls ((rd_T60 y312 x17_1).f1) 0 x17_1 true _ A13.out).mono ?_
             rintro e w' ⟨rfl, ⟨nd, rfl⟩⟩
             refine ⟨_, rfl, ?_⟩
             refine hK.out _ _ ⟨(bC_ BK317.out 0).trans rfl, (bC_ BK317.out 1).trans rfl, (bC_ BK317.out 2).trans rfl, hHeld.2.2.2⟩ (fun hHeld => ?_)
             clear hK K
             refine norm_ (a' := ?_) ?_ ?_; rotate_left; (show Act.put _ (some 25) _ = _; simp only [Act.put, sA_, sB_, sC_, i6_, i3_]; rfl)
             refine pure_ (i := 4) (N := some 26) (v := ?_) (a' := ?_) #[ty, ty, ty, ty, ty, fy, fy, fy, fy, fy, fy, fy, fy, fy, fy, fy, fy, fy, fy, fy, fy, fy, fy] rfl rfl (aO_ HT_.out (by kernel_rfl)) (fun _ _ _ h => h) (Or.inl ⟨by rfl, ?_⟩) ?_ ?_; rotate_left; (intro w'; go_simp; with_reducible rfl); rotate_left; (simp only [Act.put, sA_, sB_, sC_, i6_, i3_]; rfl)
             refine pure_ (i := 5) (N := some 27) (v := ?_) (a' := ?_) #[ty, ty, ty, ty, ty, ty, fy, fy, fy, fy, fy, fy, fy, fy, fy, fy, fy, fy, fy, fy, fy, fy, fy] rfl rfl (aO_ HT_.out (by kernel_rfl)) (fun _ _ _ h => h) (Or.inl ⟨by rfl, ?_⟩) ?_ ?_; rotate_left; (intro w'; go_simp; with_reducible rfl); rotate_left; (simp only [Act.put, sA_, sB_, sC_, i6_, i3_]; rfl)
             refine pure_ (i := 6) (N := some 28) (v := ?_) (a' := ?_) #[ty, ty, ty, ty, ty, ty, ty, fy, fy, fy, fy, fy, fy, fy, fy, fy, fy, fy, fy, fy, fy, fy, fy] rfl rfl (aO_ HT_.out (by kernel_rfl)) (fun _ _ _ h => h) (Or.inl ⟨by rfl, ?_⟩) ?_ ?_; rotate_left; (intro w'; go_simp; with_reducible rfl); rotate_left; (simp only [Act.put, sA_, sB_, sC_, i6_, i3_]; rfl)
             refine take_ (i := 7) (N := some 29) (v := ?_) (a' := ?_) #[ty, ty, ty, ty, ty, ty, ty, ty, fy, fy, fy, fy, fy, fy, fy, fy, fy, fy, fy, fy, fy, fy, fy] rfl rfl (tW_ HT_.out HW_.out (by kernel_rfl)) (fun _ _ _ h => h) (Or.inl ⟨by rfl, ?_⟩) hHeld ?_ ?_; rotate_left; (rintro w' ⟨s0, s1, s2, s3⟩; go_simp; with_reducible rfl); rotate_left; (simp only [Act.put, sA_, sB_, sC_, i6_, i3_]; rfl)
             refine pure_ (i := 8) (N := some 30) (v := ?_) (a' := ?_) #[ty, ty, ty, ty, ty, ty, ty, ty, ty, fy, fy, fy, fy, fy, fy, fy, fy, fy, fy, fy, fy, fy, fy] rfl rfl (aO_ HT_.out (by kernel_rfl)) (fun _ _ _ h => h) (Or.inl ⟨by rfl, ?_⟩) ?_ ?_; rotate_left; (intro w'; go_simp; with_reducible rfl); rotate_left; (simp only [Act.put, sA_, sB_, sC_, i6_, i3_]; rfl)
             refine pure_ (i := 9) (N := some 31) (v := ?_) (a' := ?_) #[ty, ty, ty, ty, ty, ty, ty, ty, ty, ty, fy, fy, fy, fy, fy, fy, fy, fy, fy, fy, fy, fy, fy] rfl rfl (aO_ HT_.out (by kernel_rfl)) (fun _ _ _ h => h) (Or.inl ⟨by rfl, ?_⟩) ?_ ?_; rotate_left; (intro w'; go_simp; with_reducible rfl); rotate_left; (simp only [Act.put, sA_, sB_, sC_, i6_, i3_]; rfl)
             refine pure_ (i := 10) (N := some 32) (v := ?_) (a' := ?_) #[ty, ty, ty, ty, ty, ty, ty, ty, ty, ty, ty, fy, fy, fy, fy, fy, fy, fy, fy, fy, fy, fy, fy] rfl rfl (aO_ HT_.out (by kernel_rfl)) (fun _ _ _ h => h) (Or.inl ⟨by rfl, ?_⟩) ?_ ?_; rotate_left; (intro w'; go_simp; with_reducible rfl); rotate_left; (simp only [Act.put, sA_, sB_, sC_, i6_, i3_]; rfl)
             refine pure_ (i := 11) (N := some 33) (v := ?_) (a' := ?_) #[ty, ty, ty, ty, ty, ty, ty, ty, ty, ty, ty, ty, fy, fy, fy, fy, fy, fy, fy, fy, fy, fy, fy] rfl rfl (aO_ HT_.out (by kernel_rfl)) (fun _ _ _ h => h) (Or.inl ⟨by rfl, ?_⟩) ?_ ?_; rotate_left; (intro w'; go_simp; with_reducible rfl); rotate_left; (simp only [Act.put, sA_, sB_, sC_, i6_, i3_]; rfl)
             refine pure_ (i := 12) (N := some 34) (v := ?_) (a' := ?_) #[ty, ty, ty, ty, ty, ty, ty, ty, ty, ty, ty, ty, ty, fy, fy, fy, fy, fy, fy, fy, fy, fy, fy] rfl rfl (aO_ HT_.out (by kernel_rfl)) (fun _ _ _ h => h) (Or.inl ⟨by rfl, ?_⟩) ?_ ?_; rotate_left; (intro w'; go_simp; with_reducible rfl); rotate_left; (simp only [Act.put, sA_, sB_, sC_, i6_, i3_]; rfl)
             refine pure_ (i := 13) (N := some 35) (v := ?_) (a' := ?_) #[ty, ty, ty, ty, ty, ty, ty, ty, ty, ty, ty, ty, ty, ty, fy, fy, fy, fy, fy, fy, fy, fy, fy] rfl rfl (aO_ HT_.out (by kernel_rfl)) (fun _ _ _ h => h) (Or.inl ⟨by rfl, ?_⟩) ?_ ?_; rotate_left; (intro w'; go_simp; with_reducible rfl); rotate_left; (simp only [Act.put, sA_, sB_, sC_, i6_, i3_]; rfl)
             refine pure_ (i := 17) (N := some 39) (v := ?_) (a' := ?_) #[ty, ty, ty, ty, ty, ty, ty, ty, ty, ty, ty, ty, ty, ty, fy, fy, fy, ty, fy, fy, fy, fy, fy] rfl rfl (aO_ HT_.out (by kernel_rfl)) (fun _ _ _ h => h) (Or.inl ⟨by rfl, ?_⟩) ?_ ?_; rotate_left; (intro w'; go_simp; with_reducible rfl); rotate_left; (simp only [Act.put, sA_, sB_, sC_, i6_, i3_]; rfl)
             refine take_ (i := 14) (N := some 36) (v := ?_) (a' := ?_) #[ty, ty, ty, ty, ty, ty, ty, ty, ty, ty, ty, ty, ty, ty, ty, fy, fy, ty, fy, fy, fy, fy, fy] rfl rfl (tW_ HT_.out HW_.out (by kernel_rfl)) (fun _ _ _ h => h) (Or.inl ⟨by rfl, ?_⟩) hHeld ?_ ?_; rotate_left; (rintro w' ⟨s0, s1, s2, s3⟩; go_simp; with_reducible rfl); rotate_left; (simp only [Act.put, sA_, sB_, sC_, i6_, i3_]; rfl)
             refine pure_ (i := 15) (N := some 37) (v := ?_) (a' := ?_) #[ty, ty, ty, ty, ty, ty, ty, ty, ty, ty, ty, ty, ty, ty, ty, ty, fy, ty, fy, fy, fy, fy, fy] rfl rfl (aO_ HT_.out (by kernel_rfl)) (fun _ _ _ h => h) (Or.inl ⟨by rfl, ?_⟩) ?_ ?_; rotate_left; (intro w'; go_simp; with_reducible rfl); rotate_left; (simp only [Act.put, sA_, sB_, sC_, i6_, i3_]; rfl)
             refine take_ (i := 16) (N := some 38) (v := ?_) (a' := ?_) #[ty, ty, ty, ty, ty, ty, ty, ty, ty, ty, ty, ty, ty, ty, ty, ty, ty, ty, fy, fy, fy, fy, fy] rfl rfl (tW_ HT_.out HW_.out (by kernel_rfl)) (fun _ _ _ h => h) (Or.inl ⟨by rfl, ?_⟩) hHeld ?_ ?_; rotate_left; (rintro w' ⟨s0, s1, s2, s3⟩; go_simp; with_reducible rfl); rotate_left; (simp only [Act.put, sA_, sB_, sC_, i6_, i3_]; rfl)
             refine take_ (i := 18) (N := some 40) (v := ?_) (a' := ?_) #[ty, ty, ty, ty, ty, ty, ty, ty, ty, ty, ty, ty, ty, ty, ty, ty, ty, ty, ty, fy, fy, fy, fy] rfl rfl (tW_ HT_.out HW_.out (by kernel_rfl)) (fun _ _ _ h => h) (Or.inl ⟨by rfl, ?_⟩) hHeld ?_ ?_; rotate_left; (rintro w' ⟨s0, s1, s2, s3⟩; go_simp; with_reducible rfl); rotate_left; (simp only [Act.put, sA_, sB_, sC_, i6_, i3_]; rfl)
             refine pure_ (i := 19) (N := some 41) (v := ?_) (a' := ?_) #[ty, ty, ty, ty, ty, ty, ty, ty, ty, ty, ty, ty, ty, ty, ty, ty, ty, ty, ty, ty, fy, fy, fy] rfl rfl (aO_ HT_.out (by kernel_rfl)) (fun _ _ _ h => h) (Or.inl ⟨by rfl, ?_⟩) ?_ ?_; rotate_left; (intro w'; go_simp; with_reducible rfl); rotate_left; (simp only [Act.put, sA_, sB_, sC_, i6_, i3_]; rfl)
             refine one_ (i := 20) (N := some 42) #[ty, ty, ty, ty, ty, ty, ty, ty, ty, ty, ty, ty, ty, ty, ty, ty, ty, ty, ty, ty, ty, fy, fy] rfl rfl (one_of HT_.out (by kernel_rfl)) (by decide) (fun K hK => ?_)
             refine goes_ Tryz.func34 (by kernel_rfl) rfl #[.string ((rdOf eB_ x4_1 ((rd_T60 y312 x17_1).f1)) ++ ((rd_T60 y312 x17_1).f0))] (by rfl) rfl rfl (by (try simp only [sD_, sE_, sF_]); rfl) ?_
             with_reducible refine (impl_isWord.calls ((rdOf eB_ x4_1 ((rd_T60 y312 x17_1).f1)) ++ ((rd_T60 y312 x17_1).f0)) false _ A24.out).mono ?_
             rintro e w42 ⟨rfl, hb⟩
             have HS3_ := (hb.cell (wB_ _ _ (hHeld.2.2.2))).trans (hHeld.2.2.2)
             refine ⟨_, rfl, ?_⟩
             have n0_ := aM_ (kB_ (by (with_reducible repeat (first | apply k1_ | apply k2_ | apply k3_)); exact HO_4.out) hb)
             have n1_ := aM_ (bB_ (g := gb307) (o := .cells #[.slice A0_0 l0_0.length c0_0] 30 (0, 0)) (by (with_reducible repeat (first | refine b2_ ?_ _ | refine b1_ ?_ | refine b3_ ?_ _)); exact BK307.out) hb)
             have n2_ := aM_ (bB_ (g := gb317) (o := .cells #[.string ((rd_T60 y312 x17_1).f0), .int .i64 ((rd_T60 y312 x17_1).f1), .bool ((rd_T60 y312 x17_1).f2)] 60 (0, 0)) (by (with_reducible repeat (first | refine b2_ ?_ _ | refine b1_ ?_ | refine b3_ ?_ _)); exact BK317.out) hb)
             have n3_ := aM_ (bT_ (by repeat (first | (with_reducible first | exact HB.out | apply bA_ | apply bN_ | apply bD_ | refine bS_ ?_ GE307.out | refine bS_ ?_ GE317.out) | exact HB.out)) hb)
             clear HO_4
             clear BK307
             clear BK317
             clear HB
             have HO_4 := n0_
             have BK307 := n1_
             have BK317 := n2_
             have HB := n3_
             clear n0_ n1_ n2_ n3_
             (try clear hb)
             refine hK.out _ _ ⟨(bC_ BK317.out 0).trans rfl, (bC_ BK317.out 1).trans rfl, (bC_ BK317.out 2).trans rfl, HS3_⟩ (fun hHeld => ?_)
             clear hK K
             refine norm_ (a' := ?_) ?_ ?_; rotate_left; (show Act.put _ (some 42) _ = _; simp only [Act.put, sA_, sB_, sC_, i6_, i3_]; rfl)
             refine pure_ (i := 21) (N := some 43) (v := ?_) (a' := ?_) #[ty, ty, ty, ty, ty, ty, ty, ty, ty, ty, ty, ty, ty, ty, ty, ty, ty, ty, ty, ty, ty, ty, fy] rfl rfl (aO_ HT_.out (by kernel_rfl)) (fun _ _ _ h => h) (Or.inl ⟨by rfl, ?_⟩) ?_ ?_; rotate_left; (intro w'; go_simp; with_reducible rfl); rotate_left; (simp only [Act.put, sA_, sB_, sC_, i6_, i3_]; rfl)
             refine pure_ (i := 22) (N := some 44) (v := ?_) (a' := ?_) #[ty, ty, ty, ty, ty, ty, ty, ty, ty, ty, ty, ty, ty, ty, ty, ty, ty, ty, ty, ty, ty, ty, ty] rfl rfl (aO_ HT_.out (by kernel_rfl)) (fun _ _ _ h => h) (Or.inl ⟨by rfl, ?_⟩) ?_ ?_; rotate_left; (intro w'; go_simp; with_reducible rfl); rotate_left; (simp only [Act.put, sA_, sB_, sC_, i6_, i3_]; rfl)
             refine done_ (done_of HT_.out (by kernel_rfl)) ?_
             try go_wp2
             go_ret2
             exact ⟨_, by rfl, by exact Kd.R_nil _ _ _ _ _, by exact HB.out⟩
           ·
            rw [if_neg c23] at H
            exact absurd H (by simp)
          ·
           rw [if_neg c22] at H
           exact absurd H (by simp)
         ·
          rw [if_neg c21] at H
          exact absurd H (by simp)
       ·
        replace c14 := Bool.eq_false_iff.mpr c14
        subst c14
        have H1 : (some (([] : List ByteArray), false)) = some (r1, r2) := by rw [if_neg (show ¬ (false = true) by decide)] at H; exact H
        clear H
        have H := H1
        clear H1
        simp only [Option.some.injEq, Prod.mk.injEq] at H
        obtain ⟨rfl, rfl⟩ := H
        have p316 : 0 ≤ (x17_1 : Int) := of_decide_eq_true (by (with_reducible assumption))
        have q316 : x17_1 < (y312.length : Int) := of_decide_eq_true (by (with_reducible assumption))
        obtain ⟨ad316, e316, hx316_0, hx316_1, hx316_2⟩ := at_T60 HR315.out x17_1 p316 q316
        cases e316
        replace hx316_0 := (HB.out.cell (wB_ w _ hx316_0)).trans hx316_0
        replace hx316_1 := (HB.out.cell (wB_ w _ hx316_1)).trans hx316_1
        replace hx316_2 := (HB.out.cell (wB_ w _ hx316_2)).trans hx316_2
        replace p316 := eq_true p316
        replace q316 := eq_true q316
        try go_wp2_with (first | ((with_reducible refine gD_ (N := 6) rfl ?_); (try (refine gate_guard (by rfl) ?_; dsimp only)); refine bE_ ?hg (N := 6) ?hd (cs := #[.string (⟨#[]⟩ : ByteArray), .int .i64 0, .bool false]) (t := 60) ?hr ?_; (case hd => rfl); (case hg => rfl); (case hr => (go_simp; done)); intro gb317 hg w43 hbox hb; replace HO_4 := aM_ (kB_ HO_4.out hb); have BK317 := aM_ (hbox); have GW317 := aM_ ((by rw [hg]; exact (bZ_ HB.out) : w.heap.size ≤ gb317)); have GE317 := GW317; replace HB := aM_ (bT_ HB.out hb); have NB307_317 := aM_ ((by rw [hg]; exact Nat.ne_of_lt (bL_ BK307.out) : gb307 ≠ gb317)); have NB317_307 := aM_ NB307_317.out.symm; replace BK307 := aM_ (bB_ BK307.out hb); clear hb hbox hg; have hnb44 := NB317_307.out; have hnc44 := NB307_317.out; have hcz45_0 : w43.cell? ⟨gb317, 0, none⟩ = some (.string (⟨#[]⟩ : ByteArray)) := (bC_ BK317.out 0).trans rfl; have hcz45_1 : w43.cell? ⟨gb317, 1, none⟩ = some (.int .i64 0) := (bC_ BK317.out 1).trans rfl; have hcz45_2 : w43.cell? ⟨gb317, 2, none⟩ = some (.bool false) := (bC_ BK317.out 2).trans rfl; have hfz45_0 := bF_ BK317.out 0; have hfz45_1 := bF_ BK317.out 1; have hfz45_2 := bF_ BK317.out 2))
        have n0_ : Aside0 (Kd.R Kd.string 9 (((w43.setCell ⟨gb317, 0, none⟩ (.string ((rd_T60 y312 x17_1).f0))).setCell ⟨gb317, 1, none⟩ (.int .i64 ((rd_T60 y312 x17_1).f1))).setCell ⟨gb317, 2, none⟩ (.bool ((rd_T60 y312 x17_1).f2))) w.heap.size (fun _ => True) u4 x4_1) := ⟨by exact kM_ (kF_ (p := ⟨gb317, 2, none⟩) (kF_ (p := ⟨gb317, 1, none⟩) (kF_ (p := ⟨gb317, 0, none⟩) (kT_ HO_4.out BK317.out (by decide)) (fun _ hk => hk.2) (.string ((rd_T60 y312 x17_1).f0))) (fun _ hk => hk.2) (.int .i64 ((rd_T60 y312 x17_1).f1))) (fun _ hk => hk.2) (.bool ((rd_T60 y312 x17_1).f2))) (fun _ hk => trivial)⟩
        have n1_ : Aside0 ((((w43.setCell ⟨gb317, 0, none⟩ (.string ((rd_T60 y312 x17_1).f0))).setCell ⟨gb317, 1, none⟩ (.int .i64 ((rd_T60 y312 x17_1).f1))).setCell ⟨gb317, 2, none⟩ (.bool ((rd_T60 y312 x17_1).f2))).heap[gb307]? = some (.cells #[.slice A0_0 l0_0.length c0_0] 30 (0, 0))) := ⟨by refine bR_ ?_ NB307_317.out _; refine bR_ ?_ NB307_317.out _; refine bR_ ?_ NB307_317.out _; exact BK307.out⟩
        have n2_ : Aside0 ((((w43.setCell ⟨gb317, 0, none⟩ (.string ((rd_T60 y312 x17_1).f0))).setCell ⟨gb317, 1, none⟩ (.int .i64 ((rd_T60 y312 x17_1).f1))).setCell ⟨gb317, 2, none⟩ (.bool ((rd_T60 y312 x17_1).f2))).heap[gb317]? = some (.cells #[.string ((rd_T60 y312 x17_1).f0), .int .i64 ((rd_T60 y312 x17_1).f1), .bool ((rd_T60 y312 x17_1).f2)] 60 (0, 0))) := ⟨by refine bP_ (cs := #[.string ((rd_T60 y312 x17_1).f0), .int .i64 ((rd_T60 y312 x17_1).f1), .bool false]) ?_ 2 _ rfl; refine bP_ (cs := #[.string ((rd_T60 y312 x17_1).f0), .int .i64 0, .bool false]) ?_ 1 _ rfl; refine bP_ (cs := #[.string (⟨#[]⟩ : ByteArray), .int .i64 0, .bool false]) ?_ 0 _ rfl; exact BK317.out⟩
        have n3_ : Aside0 (Below w.heap.size w (((w43.setCell ⟨gb317, 0, none⟩ (.string ((rd_T60 y312 x17_1).f0))).setCell ⟨gb317, 1, none⟩ (.int .i64 ((rd_T60 y312 x17_1).f1))).setCell ⟨gb317, 2, none⟩ (.bool ((rd_T60 y312 x17_1).f2)))) := ⟨by repeat (first | (with_reducible first | exact HB.out | apply bA_ | apply bN_ | apply bD_ | refine bS_ ?_ GE307.out | refine bS_ ?_ GE317.out) | exact HB.out)⟩
        (try clear HO_4)
        (try clear BK307)
        (try clear BK317)
        (try clear HB)
        generalize (((w43.setCell ⟨gb317, 0, none⟩ (.string ((rd_T60 y312 x17_1).f0))).setCell ⟨gb317, 1, none⟩ (.int .i64 ((rd_T60 y312 x17_1).f1))).setCell ⟨gb317, 2, none⟩ (.bool ((rd_T60 y312 x17_1).f2))) = w46 at n0_ n1_ n2_ n3_ ⊢
        have HO_4 := n0_
        have BK307 := n1_
        have BK317 := n2_
        have HB := n3_
        clear n0_ n1_ n2_ n3_
        have n0_ := aM_ (k3_ HO_4.out)
        have n1_ := aM_ (b1_ BK307.out)
        have n2_ := aM_ (b1_ BK317.out)
        have n3_ := aM_ (bD_ HB.out)
        clear HO_4
        clear BK307
        clear BK317
        clear HB
        have HO_4 := n0_
        have BK307 := n1_
        have BK317 := n2_
        have HB := n3_
        clear n0_ n1_ n2_ n3_
        refine start_ (n := 23) (S := fun w' => w'.cell? ⟨gb317, 0, none⟩ = some (.string ((rd_T60 y312 x17_1).f0)) ∧ w'.cell? ⟨gb317, 1, none⟩ = some (.int .i64 ((rd_T60 y312 x17_1).f1)) ∧ w'.cell? ⟨gb317, 2, none⟩ = some (.bool ((rd_T60 y312 x17_1).f2))) (ds := []) #[fy, fy, fy, fy, fy, fy, fy, fy, fy, fy, fy, fy, fy, fy, fy, fy, fy, fy, fy, fy, fy, fy, fy] (by kernel_rfl) rfl rfl ⟨(bC_ BK317.out 0).trans rfl, (bC_ BK317.out 1).trans rfl, (bC_ BK317.out 2).trans rfl⟩ (fun hHeld => ?_); refine with_tabW impl_Pressed_prefixes.tab7 impl_Pressed_prefixes.bits7 (fun HT_ HW_ => ?_)
        generalize w46.drew = w47 at HO_4 BK307 BK317 HB hHeld ⊢
        refine pure_ (i := 0) (N := some 22) (v := ?_) (a' := ?_) #[ty, fy, fy, fy, fy, fy, fy, fy, fy, fy, fy, fy, fy, fy, fy, fy, fy, fy, fy, fy, fy, fy, fy] rfl rfl (aO_ HT_.out (by kernel_rfl)) (fun _ _ _ h => h) (Or.inl ⟨by rfl, ?_⟩) ?_ ?_; rotate_left; (intro w'; go_simp; with_reducible rfl); rotate_left; (simp only [Act.put, sA_, sB_, sC_, i6_, i3_]; rfl)
        refine pure_ (i := 2) (N := some 24) (v := ?_) (a' := ?_) #[ty, fy, ty, fy, fy, fy, fy, fy, fy, fy, fy, fy, fy, fy, fy, fy, fy, fy, fy, fy, fy, fy, fy] rfl rfl (aO_ HT_.out (by kernel_rfl)) (fun _ _ _ h => h) (Or.inl ⟨by rfl, ?_⟩) ?_ ?_; rotate_left; (intro w'; go_simp; with_reducible rfl); rotate_left; (simp only [Act.put, sA_, sB_, sC_, i6_, i3_]; rfl)
        refine take_ (i := 1) (N := some 23) (v := ?_) (a' := ?_) #[ty, ty, ty, fy, fy, fy, fy, fy, fy, fy, fy, fy, fy, fy, fy, fy, fy, fy, fy, fy, fy, fy, fy] rfl rfl (tW_ HT_.out HW_.out (by kernel_rfl)) (fun _ _ _ h => h) (Or.inl ⟨by rfl, ?_⟩) hHeld ?_ ?_; rotate_left; (rintro w' ⟨s0, s1, s2⟩; go_simp; with_reducible rfl); rotate_left; (simp only [Act.put, sA_, sB_, sC_, i6_, i3_]; rfl)
        refine one_ (i := 3) (N := some 25) #[ty, ty, ty, ty, fy, fy, fy, fy, fy, fy, fy, fy, fy, fy, fy, fy, fy, fy, fy, fy, fy, fy, fy] rfl rfl (one_of HT_.out (by kernel_rfl)) (by decide) (fun K hK => ?_)
        refine goes_ Tryz.func67 (by kernel_rfl) rfl #[.int .i64 ((rd_T60 y312 x17_1).f1), .int .i64 0, .int .i64 x17_1] (by rfl) rfl rfl (by (try simp only [sD_, sE_, sF_]); rfl) ?_
        with_reducible refine (impl_in.calls ((rd_T60 y312 x17_1).f1) 0 x17_1 false _ A13.out).mono ?_
        rintro e w' ⟨rfl, ⟨nd, rfl⟩⟩
        refine ⟨_, rfl, ?_⟩
        refine hK.out _ _ ⟨(bC_ BK317.out 0).trans rfl, (bC_ BK317.out 1).trans rfl, (bC_ BK317.out 2).trans rfl⟩ (fun hHeld => ?_)
        clear hK K
        refine norm_ (a' := ?_) ?_ ?_; rotate_left; (show Act.put _ (some 25) _ = _; simp only [Act.put, sA_, sB_, sC_, i6_, i3_]; rfl)
        refine pure_ (i := 4) (N := some 26) (v := ?_) (a' := ?_) #[ty, ty, ty, ty, ty, fy, fy, fy, fy, fy, fy, fy, fy, fy, fy, fy, fy, fy, fy, fy, fy, fy, fy] rfl rfl (aO_ HT_.out (by kernel_rfl)) (fun _ _ _ h => h) (Or.inl ⟨by rfl, ?_⟩) ?_ ?_; rotate_left; (intro w'; go_simp; with_reducible rfl); rotate_left; (simp only [Act.put, sA_, sB_, sC_, i6_, i3_]; rfl)
        refine pure_ (i := 5) (N := some 27) (v := ?_) (a' := ?_) #[ty, ty, ty, ty, ty, ty, fy, fy, fy, fy, fy, fy, fy, fy, fy, fy, fy, fy, fy, fy, fy, fy, fy] rfl rfl (aO_ HT_.out (by kernel_rfl)) (fun _ _ _ h => h) (Or.inl ⟨by rfl, ?_⟩) ?_ ?_; rotate_left; (intro w'; go_simp; with_reducible rfl); rotate_left; (simp only [Act.put, sA_, sB_, sC_, i6_, i3_]; rfl)
        refine pure_ (i := 6) (N := some 28) (v := undef) (a' := ?_) #[ty, ty, ty, ty, ty, ty, ty, fy, fy, fy, fy, fy, fy, fy, fy, fy, fy, fy, fy, fy, fy, fy, fy] rfl rfl (aO_ HT_.out (by kernel_rfl)) (fun _ _ _ h => h) (Or.inr ⟨by rfl, rfl⟩) ?_ ?_
        rotate_left
        ·
         simp only [Act.put, sA_, sB_, sC_, i6_, i3_]
         rfl
        refine pure_ (i := 7) (N := some 29) (v := undef) (a' := ?_) #[ty, ty, ty, ty, ty, ty, ty, ty, fy, fy, fy, fy, fy, fy, fy, fy, fy, fy, fy, fy, fy, fy, fy] rfl rfl (aO_ HT_.out (by kernel_rfl)) (fun _ _ _ h => h) (Or.inr ⟨by rfl, rfl⟩) ?_ ?_
        rotate_left
        ·
         simp only [Act.put, sA_, sB_, sC_, i6_, i3_]
         rfl
        refine pure_ (i := 8) (N := some 30) (v := undef) (a' := ?_) #[ty, ty, ty, ty, ty, ty, ty, ty, ty, fy, fy, fy, fy, fy, fy, fy, fy, fy, fy, fy, fy, fy, fy] rfl rfl (aO_ HT_.out (by kernel_rfl)) (fun _ _ _ h => h) (Or.inr ⟨by rfl, rfl⟩) ?_ ?_
        rotate_left
        ·
         simp only [Act.put, sA_, sB_, sC_, i6_, i3_]
         rfl
        refine pure_ (i := 9) (N := some 31) (v := undef) (a' := ?_) #[ty, ty, ty, ty, ty, ty, ty, ty, ty, ty, fy, fy, fy, fy, fy, fy, fy, fy, fy, fy, fy, fy, fy] rfl rfl (aO_ HT_.out (by kernel_rfl)) (fun _ _ _ h => h) (Or.inr ⟨by rfl, rfl⟩) ?_ ?_
        rotate_left
        ·
         simp only [Act.put, sA_, sB_, sC_, i6_, i3_]
         rfl
        refine pure_ (i := 10) (N := some 32) (v := ?_) (a' := ?_) #[ty, ty, ty, ty, ty, ty, ty, ty, ty, ty, ty, fy, fy, fy, fy, fy, fy, fy, fy, fy, fy, fy, fy] rfl rfl (aO_ HT_.out (by kernel_rfl)) (fun _ _ _ h => h) (Or.inl ⟨by rfl, ?_⟩) ?_ ?_; rotate_left; (intro w'; go_simp; with_reducible rfl); rotate_left; (simp only [Act.put, sA_, sB_, sC_, i6_, i3_]; rfl)
        refine pure_ (i := 11) (N := some 33) (v := ?_) (a' := ?_) #[ty, ty, ty, ty, ty, ty, ty, ty, ty, ty, ty, ty, fy, fy, fy, fy, fy, fy, fy, fy, fy, fy, fy] rfl rfl (aO_ HT_.out (by kernel_rfl)) (fun _ _ _ h => h) (Or.inl ⟨by rfl, ?_⟩) ?_ ?_; rotate_left; (intro w'; go_simp; with_reducible rfl); rotate_left; (simp only [Act.put, sA_, sB_, sC_, i6_, i3_]; rfl)
        refine pure_ (i := 12) (N := some 34) (v := undef) (a' := ?_) #[ty, ty, ty, ty, ty, ty, ty, ty, ty, ty, ty, ty, ty, fy, fy, fy, fy, fy, fy, fy, fy, fy, fy] rfl rfl (aO_ HT_.out (by kernel_rfl)) (fun _ _ _ h => h) (Or.inr ⟨by rfl, rfl⟩) ?_ ?_
        rotate_left
        ·
         simp only [Act.put, sA_, sB_, sC_, i6_, i3_]
         rfl
        refine pure_ (i := 13) (N := some 35) (v := undef) (a' := ?_) #[ty, ty, ty, ty, ty, ty, ty, ty, ty, ty, ty, ty, ty, ty, fy, fy, fy, fy, fy, fy, fy, fy, fy] rfl rfl (aO_ HT_.out (by kernel_rfl)) (fun _ _ _ h => h) (Or.inr ⟨by rfl, rfl⟩) ?_ ?_
        rotate_left
        ·
         simp only [Act.put, sA_, sB_, sC_, i6_, i3_]
         rfl
        refine pure_ (i := 14) (N := some 36) (v := undef) (a' := ?_) #[ty, ty, ty, ty, ty, ty, ty, ty, ty, ty, ty, ty, ty, ty, ty, fy, fy, fy, fy, fy, fy, fy, fy] rfl rfl (aO_ HT_.out (by kernel_rfl)) (fun _ _ _ h => h) (Or.inr ⟨by rfl, rfl⟩) ?_ ?_
        rotate_left
        ·
         simp only [Act.put, sA_, sB_, sC_, i6_, i3_]
         rfl
        refine pure_ (i := 15) (N := some 37) (v := undef) (a' := ?_) #[ty, ty, ty, ty, ty, ty, ty, ty, ty, ty, ty, ty, ty, ty, ty, ty, fy, fy, fy, fy, fy, fy, fy] rfl rfl (aO_ HT_.out (by kernel_rfl)) (fun _ _ _ h => h) (Or.inr ⟨by rfl, rfl⟩) ?_ ?_
        rotate_left
        ·
         simp only [Act.put, sA_, sB_, sC_, i6_, i3_]
         rfl
        refine pure_ (i := 16) (N := some 38) (v := undef) (a' := ?_) #[ty, ty, ty, ty, ty, ty, ty, ty, ty, ty, ty, ty, ty, ty, ty, ty, ty, fy, fy, fy, fy, fy, fy] rfl rfl (aO_ HT_.out (by kernel_rfl)) (fun _ _ _ h => h) (Or.inr ⟨by rfl, rfl⟩) ?_ ?_
        rotate_left
        ·
         simp only [Act.put, sA_, sB_, sC_, i6_, i3_]
         rfl
        refine pure_ (i := 17) (N := some 39) (v := undef) (a' := ?_) #[ty, ty, ty, ty, ty, ty, ty, ty, ty, ty, ty, ty, ty, ty, ty, ty, ty, ty, fy, fy, fy, fy, fy] rfl rfl (aO_ HT_.out (by kernel_rfl)) (fun _ _ _ h => h) (Or.inr ⟨by rfl, rfl⟩) ?_ ?_
        rotate_left
        ·
         simp only [Act.put, sA_, sB_, sC_, i6_, i3_]
         rfl
        refine pure_ (i := 18) (N := some 40) (v := undef) (a' := ?_) #[ty, ty, ty, ty, ty, ty, ty, ty, ty, ty, ty, ty, ty, ty, ty, ty, ty, ty, ty, fy, fy, fy, fy] rfl rfl (aO_ HT_.out (by kernel_rfl)) (fun _ _ _ h => h) (Or.inr ⟨by rfl, rfl⟩) ?_ ?_
        rotate_left
        ·
         simp only [Act.put, sA_, sB_, sC_, i6_, i3_]
         rfl
        refine pure_ (i := 19) (N := some 41) (v := undef) (a' := ?_) #[ty, ty, ty, ty, ty, ty, ty, ty, ty, ty, ty, ty, ty, ty, ty, ty, ty, ty, ty, ty, fy, fy, fy] rfl rfl (aO_ HT_.out (by kernel_rfl)) (fun _ _ _ h => h) (Or.inr ⟨by rfl, rfl⟩) ?_ ?_
        rotate_left
        ·
         simp only [Act.put, sA_, sB_, sC_, i6_, i3_]
         rfl
        refine pure_ (i := 20) (N := some 42) (v := undef) (a' := ?_) #[ty, ty, ty, ty, ty, ty, ty, ty, ty, ty, ty, ty, ty, ty, ty, ty, ty, ty, ty, ty, ty, fy, fy] rfl rfl (aO_ HT_.out (by kernel_rfl)) (fun _ _ _ h => h) (Or.inr ⟨by rfl, rfl⟩) ?_ ?_
        rotate_left
        ·
         simp only [Act.put, sA_, sB_, sC_, i6_, i3_]
         rfl
        refine pure_ (i := 21) (N := some 43) (v := undef) (a' := ?_) #[ty, ty, ty, ty, ty, ty, ty, ty, ty, ty, ty, ty, ty, ty, ty, ty, ty, ty, ty, ty, ty, ty, fy] rfl rfl (aO_ HT_.out (by kernel_rfl)) (fun _ _ _ h => h) (Or.inr ⟨by rfl, rfl⟩) ?_ ?_
        rotate_left
        ·
         simp only [Act.put, sA_, sB_, sC_, i6_, i3_]
         rfl
        refine pure_ (i := 22) (N := some 44) (v := ?_) (a' := ?_) #[ty, ty, ty, ty, ty, ty, ty, ty, ty, ty, ty, ty, ty, ty, ty, ty, ty, ty, ty, ty, ty, ty, ty] rfl rfl (aO_ HT_.out (by kernel_rfl)) (fun _ _ _ h => h) (Or.inl ⟨by rfl, ?_⟩) ?_ ?_; rotate_left; (intro w'; go_simp; with_reducible rfl); rotate_left; (simp only [Act.put, sA_, sB_, sC_, i6_, i3_]; rfl)
        refine done_ (done_of HT_.out (by kernel_rfl)) ?_
        try go_wp2
        go_ret2
        exact ⟨_, by rfl, by exact Kd.R_nil _ _ _ _ _, by repeat (first | (with_reducible first | exact HB.out | apply bA_ | apply bN_ | apply bD_ | refine bS_ ?_ GE307.out | refine bS_ ?_ GE317.out) | exact HB.out)⟩
      ·
       rw [if_neg c12] at H
       exact absurd H (by simp)
     ·
      rw [if_neg c11] at H
      exact absurd H (by simp)
    ·
     rw [if_neg c10] at H
     have c10b0 := decide_eq_false c10
     clear c10
     simp only [Option.some.injEq, Prod.mk.injEq] at H
     obtain ⟨rfl, rfl⟩ := H
     go_wp2
     go_ret2
     exact ⟨_, by rfl, by exact HO_4.out, by exact HB.out⟩
 ·
  replace c3 := Bool.eq_false_iff.mpr c3
  subst c3
  have H1 : (some (([] : List ByteArray), false)) = some (r1, r2) := by rw [if_neg (show ¬ (false = true) by decide)] at H; exact H
  clear H
  have H := H1
  clear H1
  simp only [Option.some.injEq, Prod.mk.injEq] at H
  obtain ⟨rfl, rfl⟩ := H
  go_enter Tryz.func36, Tryz.ntmps36
  go_wp2_with (first | ((with_reducible refine gD_ (N := 1) rfl ?_); (try (refine gate_guard (by rfl) ?_; dsimp only)); refine bE_ ?hg (N := 1) ?hd (cs := #[.slice A0_0 l0_0.length c0_0]) (t := 30) ?hr ?_; (case hd => rfl); (case hg => rfl); (case hr => (go_simp; done)); intro gb307 hg w48 hbox hb; have BK307 := aM_ (hbox); have GW307 := aM_ ((by rw [hg]; exact (bZ_ HB.out) : w.heap.size ≤ gb307)); have GE307 := GW307; replace HB := aM_ (bT_ HB.out hb); clear hb hbox hg) | ((with_reducible refine gD_ (N := 7) rfl ?_); (try (refine gate_guard (by rfl) ?_; dsimp only)); refine Kd.R_lit Kd.string _ 9 ?hg (N := 7) ?hd (xs := ([(⟨#[]⟩ : ByteArray)] : List ByteArray)) (inner := [.string (⟨#[]⟩ : ByteArray)]) (ok := fun _ => True) (okp := fun _ => True) ?hr ?hp (fun _ hk => hk) trivial (Below.refl _ _) (Nat.le_refl _) (by simp) ?_; (case hd => rfl); (case hg => rfl); (case hr => (go_simp; done)); (case hp => exact (Reps.one (show Kd.M Kd.string _ _ _ (⟨#[]⟩ : ByteArray) [.string (⟨#[]⟩ : ByteArray)] from rfl) (Reps.none _ _))); intro v309 w49 ho50 hb hg_ hnew_; clear hg_ hnew_; (rw [← Ny308.out] at ho50); have HO310 := aM_ (k5_ ho50 (bZ_ HB.out)); replace BK307 := aM_ (bB_ BK307.out hb); replace HB := aM_ (bT_ HB.out hb); clear hb ho50; have hcz51_0 : w49.cell? ⟨gb307, 0, none⟩ = some (.slice A0_0 l0_0.length c0_0) := (bC_ BK307.out 0).trans rfl; have hfz51_0 := bF_ BK307.out 0) | ((with_reducible refine gC_ (f := 67) rfl ?_); refine goesL_ (some 11) rfl rfl Tryz.func67 (by kernel_rfl) rfl #[.int .i64 (l0_0.length : Int), .int .i64 1, .int .i64 81] rfl (by (try simp only [sD_, sE_, sF_]); rfl) ?_; (with_reducible refine (impl_in.calls (l0_0.length : Int) 1 81 false _ A2.out).mono ?_); rintro e w' ⟨rfl, ⟨nd, rfl⟩⟩; refine ⟨_, rfl, ?_⟩))
  go_ret2
  exact ⟨_, by rfl, by exact Kd.R_nil _ _ _ _ _, by repeat (first | (with_reducible first | exact HB.out | apply bA_ | apply bN_ | apply bD_ | refine bS_ ?_ GE307.out) | exact HB.out)⟩
end Go.Proofs.YtfhffcefpnkllaaGreatDoor.P
namespace Go.Proofs.YtfhffcefpnkllaaGreatDoor.P
open Go.RowKit Go.Proofs.YtfhffcefpnkllaaGreatDoorW.PrintWords Go.Proofs.YtfhffcefpnkllaaGreatDoorW.PrintLast Go.Proofs.YtfhffcefpnkllaaGreatDoorW.PrintMore
attribute [local go_sem] max2_int min2_int max_two min_two max_three min_three max_four min_four
open Go.Maps
namespace SM
theorem law : Keyed Tryz.prog 9 := string_keyed Tryz.underlying9
theorem zeroE (w : World) : (zeroValue 3).run Tryz.prog w = .ok (.int .i64 0) w := by kernel_rfl
noncomputable abbrev elem : Value → Option (DataW Unit × List MemPlace) := plainElem Tryz.prog 3
def dat : List ByteArray → DataW Unit
 | [] => .map []
 | x :: r => (dat r).put (.string x.data.toList) (.lit (.int .i64 (r.length : Int)))
def atR : List ByteArray → ByteArray → Int
 | [], _ => 0
 | x :: r, p => if x.data.toList = p.data.toList then (r.length : Int) else atR r p
def at_ (l : List ByteArray) (p : ByteArray) : Int := atR l.reverse p
theorem isMap : ∀ l, IsMap (dat l)
 | [] => ⟨[], rfl⟩
 | x :: r => by
  obtain ⟨es, h⟩ := isMap r
  rw [dat, h]
  exact ⟨_, rfl⟩
theorem dat_at : ∀ (l : List ByteArray) (p : ByteArray), (dat l).atKey (.string p.data.toList) (.lit (.int .i64 0)) = .lit (.int .i64 (atR l p))
 | [], _ => rfl
 | x :: r, p => by
  by_cases h : x.data.toList = p.data.toList
  ·
   rw [atR, if_pos h, dat, h]
   exact atKey_put_same (isMap r) (show Go.WideAt.IsKeyLit (.string _) from trivial) _ _
  ·
   rw [atR, if_neg h, dat]
   refine (atKey_put_other (fun e => h ?_) _ _).trans (dat_at r p)
   injection e with e
   exact e.symm
def Is (w : World) (b : Nat) (l : List ByteArray) : Prop := w.ownsMap Tryz.prog 9 elem b l.length (dat l.reverse)
theorem Is.made (w : World) : Is (w.alloc (.map #[] 0)) w.heap.size [] := World.ownsMap_made w _ _ _
theorem Is.obj {w : World} {b : Nat} {l : List ByteArray} (h : Is w b l) : ∃ es ck, w.heap[b]? = some (.map es ck) := by
 obtain ⟨es, ck, hb, _⟩ := h
 exact ⟨es, ck, hb⟩
theorem Is.moved {w w1 : World} {b : Nat} {l : List ByteArray} (h : Is w b l) (e : w1.heap[b]? = w.heap[b]?) : Is w1 b l := by
 obtain ⟨es, ck, hb, F, hs, hD⟩ := h
 exact ⟨es, ck, e.trans hb, F, hs, hD⟩
theorem Is.lt {w : World} {b : Nat} {l : List ByteArray} (h : Is w b l) : b < w.heap.size := World.ownsMap.lt h
theorem Is.below {w w1 : World} {b : Nat} {l : List ByteArray} (h : Is w b l) (hb : Below w.heap.size w w1) : Is w1 b l := h.moved (hb.block b h.lt)
theorem Is.alloc {w : World} {b : Nat} {l : List ByteArray} (h : Is w b l) (o : Obj) : Is (w.alloc o) b l := World.ownsMap.alloc h o
theorem Is.drewN {w : World} {b : Nat} {l : List ByteArray} (h : Is w b l) (n : Nat) : Is (w.drewN n) b l := h.moved rfl
theorem Is.drew {w : World} {b : Nat} {l : List ByteArray} (h : Is w b l) : Is w.drew b l := h.moved rfl
theorem Is.far {w : World} {b : Nat} {l : List ByteArray} (h : Is w b l) {p : Addr} (hp : b ≠ p.block) (u : Value) : Is (w.setCell p u) b l := h.moved (Below.heap_setCell w p u b hp)
theorem Is.grown {w w1 : World} {b : Nat} {l : List ByteArray} {row : Option Nat} (h : Is w b l) (hg : w.grownBy w1 row) (hne : some b ≠ row) : Is w1 b l := h.moved (hg.block b h.lt hne)
theorem Is.ne {α : Type} {d : Kd α} {e base : Nat} {ok : Nat → Prop} {w : World} {v : Value} {xs : List α} {b : Nat} {l : List ByteArray} (h : Is w b l) (hr : d.R e w base ok v xs) : some b ≠ v.ownBlock := fun e_ => by
 obtain ⟨es, ck, hb⟩ := h.obj
 obtain ⟨cells, hc⟩ := Kd.R_typed hr b e_.symm
 rw [hb] at hc
 cases hc
theorem Is.ne_block {w : World} {b g t : Nat} {cs : Array Value} {l : List ByteArray} (h : Is w b l) (hc : w.heap[g]? = some (.cells cs t (0, 0))) : b ≠ g := fun e_ => by
 obtain ⟨es, ck, hb⟩ := h.obj
 subst e_
 rw [hb] at hc
 cases hc
theorem R_over {α : Type} {d : Kd α} {e base : Nat} {ok : Nat → Prop} {w w1 : World} {v : Value} {xs : List α} {b : Nat} {l : List ByteArray} (hr : d.R e w base ok v xs) (h : Is w b l) (hg : w.grownBy w1 (some b)) : d.R e w1 base ok v xs := by
 refine Kd.R_mono (Kd.R_move (Kd.R_bound hr) (fun k hk => hg.block k hk.2.2.1 (fun he => ?_))) (fun _ hk => hk.1)
 obtain ⟨_, _, _, q, hq, cells, hc⟩ := hk
 obtain ⟨es, ck, hb⟩ := h.obj
 cases he
 rw [hb] at hc
 cases hc
theorem put {w : World} {ops : Array Oper} {rest : List Oper} {o : Oper} {a : Act} {Q : Exit → Act → World → Prop} (hg : o.guard = none) (m x v : Operand) (t : TypeId) (ht : Tryz.prog.underlying t = some (.map 9 3)) (hop : o.op = Op.mapUpdate t m x v)
  (b : Nat) (l : List ByteArray) (hm : a.eval m = .map (some b)) (h : Is w b l) (hn : l.length < 4294967296) (p : ByteArray) (hp : p.size ≤ maxLen) (hx : a.eval x = .string p) (hv : a.eval v = .int .i64 (l.length : Int))
  (hK : ∀ w', Is w' b (l ++ [p]) → w.grownBy w' (some b) → wpList Tryz.prog ops Q rest (a.put o.dst undef) w') : wpList Tryz.prog ops Q (o :: rest) a w := by
 refine wpList_mapUpdate_own w hg m x v t hop 9 3 law ht elem b l.length (dat l.reverse) hm h (by unfold maxLen; omega) (.string p) (.int .i64 (l.length : Int)) (.string p.data.toList) hx hv (Go.WideMaps.keyOf_string_mk Tryz.underlying9 hp) (.lit (.int .i64 (l.length : Int))) [] (plainElem_int Tryz.underlying3 (WalkArith.wf_i64 ⟨by omega, by omega⟩)) ?_
 intro w1 h1 h2
 refine hK w1 ?_ h2
 unfold Is
 rw [List.length_append, List.reverse_append]
 show w1.ownsMap _ _ _ b (l.length + 1) ((dat l.reverse).put _ (.lit (.int .i64 (l.reverse.length : Int))))
 rw [List.length_reverse]
 exact h1
theorem get {w : World} {b : Nat} {l : List ByteArray} (h : Is w b l) (t : TypeId) (ht : Tryz.prog.underlying t = some (.map 9 3)) (p : ByteArray) (hp : p.size ≤ maxLen) :
  (Instr.lookup t (.map (some b)) (.string p) false).run Tryz.prog w = .ok (.int .i64 (at_ l p)) w := by
 obtain ⟨c, hrun, hat, _⟩ := World.ownsMap.lookup_int h law ht Tryz.underlying3 (zeroE w) (Go.WideMaps.keyOf_string_mk Tryz.underlying9 hp)
 rw [dat_at] at hat
 simp only [DataW.lit.injEq, Lit.int.injEq, true_and] at hat
 have e1 : at_ l p = c := hat
 rw [e1]
 exact hrun
theorem made {W : World} {ops : Array Oper} {rest : List Oper} {o : Oper} {a : Act} {Q : Exit → Act → World → Prop} (hgd : o.guard = none) {N : Tmp} (_hd : o.dst = some N)
  (hrun : (execOp a.eval o).run Tryz.prog W = .ok (.value (.map (some W.heap.size))) (W.alloc (.map #[] 0)))
  (h : ∀ g, g = W.heap.size → ∀ w1, Is w1 g [] → Below W.heap.size W w1 → wpList Tryz.prog ops Q rest (a.put o.dst (.map (some g))) w1) : wpList Tryz.prog ops Q (o :: rest) a W :=
 Kd.event_run hgd hrun (h _ rfl _ (Is.made W) (below_alloc (Below.refl _ _) _))
def okL (l : List ByteArray) : Bool := (l.all fun s_ => decide (s_.size ≤ 4294967296)) && decide (l.length ≤ 4294967296)
theorem okL.size {l : List ByteArray} (h : okL l = true) (i : Int) (h0 : 0 ≤ i) (h1 : i < (l.length : Int)) : (rdOf ByteArray.empty l i).size ≤ 4294967296 := by
 unfold okL at h
 rw [Bool.and_eq_true] at h
 have hi : i.toNat < l.length := by omega
 have hm : rdOf ByteArray.empty l i ∈ l := by
  unfold rdOf
  rw [List.getD_eq_getElem?_getD, List.getElem?_eq_getElem hi]
  exact List.getElem_mem _
 simpa using List.all_eq_true.1 h.1 _ hm
theorem okL.len {l : List ByteArray} (h : okL l = true) : l.length ≤ 4294967296 := by
 unfold okL at h
 rw [Bool.and_eq_true] at h
 simpa using h.2
theorem size_ext (s : ByteArray) (i : Nat) (h : s.size ≤ 4294967296) : (s.extract 0 i).size ≤ maxLen := by
 rw [ByteArray.size_extract]
 unfold maxLen
 omega
theorem take_rd (l : List ByteArray) (i : Int) (h0 : 0 ≤ i) (h1 : i < (l.length : Int)) : List.take i.toNat l ++ [rdOf ByteArray.empty l i] = List.take (i.toNat + 1) l := by
 have hi : i.toNat < l.length := by omega
 rw [List.take_succ_eq_append_getElem hi]
 unfold rdOf
 rw [List.getD_eq_getElem?_getD, List.getElem?_eq_getElem hi]
 rfl
theorem next_rd (l : List ByteArray) (i : Int) {lm : List ByteArray} (lm2 : List ByteArray) (h1 : lm2 = lm ++ [rdOf ByteArray.empty l i]) (h2 : lm ++ [rdOf ByteArray.empty l i] = List.take (i.toNat + 1) l) (h3 : (lm.length : Int) = i) (h4 : lm.length < l.length) (h5 : okL l = true) : List.take ((wrap64 (i + 1) : Int).toNat) l = lm2 := by
 have h6 := okL.len h5
 have hw : wrap64 (i + 1) = i + 1 := by unfold wrap64; omega
 rw [hw, h1, h2]
 congr 1
 omega
end SM
end Go.Proofs.YtfhffcefpnkllaaGreatDoor.P
namespace Go.Proofs
open Go.Shelf
def Tryz.lays190_ren : Go.Shelf.Ren := ⟨fun | 190 => 116 | 125 => 127 | 258 => 126 | 128 => 139 | 129 => 140 | 302 => 131 | 303 => 132 | 304 => 133 | 305 => 134 | 306 => 135 | 307 => 136 | 308 => 113 | 309 => 137 | 310 => 138 | 333 => 145 | 329 => 146 | 330 => 147 | 334 => 148 | 335 => 149 | 336 => 124 | 344 => 151 | n => n, fun | 31 => 49 | 9 => 9 | 3 => 3 | 46 => 124 | 0 => 0 | 51 => 145 | 53 => 147 | 4 => 4 | 183 => 139 | 182 => 138 | 131 => 26 | 5 => 5 | 218 => 156 | 222 => 160 | 228 => 162 | 229 => 163 | n => n, fun | n => n⟩
theorem Tryz.lays190 : Go.Proofs.Lays.n190 Tryz.prog Tryz.lays190_ren := {
  mixed := by kernel_rfl
  f125 := Tryz.func127.trans (congrArg some (by kernel_rfl))
  f128 := Tryz.func139.trans (congrArg some (by kernel_rfl))
  f129 := Tryz.func140.trans (congrArg some (by kernel_rfl))
  f190 := Tryz.func116.trans (congrArg some (by kernel_rfl))
  f258 := Tryz.func126.trans (congrArg some (by kernel_rfl))
  f302 := Tryz.func131.trans (congrArg some (by kernel_rfl))
  f303 := Tryz.func132.trans (congrArg some (by kernel_rfl))
  f304 := Tryz.func133.trans (congrArg some (by kernel_rfl))
  f305 := Tryz.func134.trans (congrArg some (by kernel_rfl))
  f306 := Tryz.func135.trans (congrArg some (by kernel_rfl))
  f307 := Tryz.func136.trans (congrArg some (by kernel_rfl))
  f308 := Tryz.func113.trans (congrArg some (by kernel_rfl))
  f309 := Tryz.func137.trans (congrArg some (by kernel_rfl))
  f310 := Tryz.func138.trans (congrArg some (by kernel_rfl))
  f329 := Tryz.func146.trans (congrArg some (by kernel_rfl))
  f330 := Tryz.func147.trans (congrArg some (by kernel_rfl))
  f333 := Tryz.func145.trans (congrArg some (by kernel_rfl))
  f334 := Tryz.func148.trans (congrArg some (by kernel_rfl))
  f335 := Tryz.func149.trans (congrArg some (by kernel_rfl))
  f336 := Tryz.func124.trans (congrArg some (by kernel_rfl))
  f344 := Tryz.func151.trans (congrArg some (by kernel_rfl))
  t0 := Tryz.underlying0
  a0 := Tryz.isAgg0
  z0 := Tryz.sizeOf0
  v0 := Tryz.zeroValue0
  t3 := Tryz.underlying3
  a3 := Tryz.isAgg3
  z3 := Tryz.sizeOf3
  v3 := Tryz.zeroValue3
  t4 := Tryz.underlying4
  a4 := Tryz.isAgg4
  z4 := Tryz.sizeOf4
  v4 := Tryz.zeroValue4
  t5 := Tryz.underlying5
  a5 := Tryz.isAgg5
  z5 := Tryz.sizeOf5
  v5 := Tryz.zeroValue5
  t9 := Tryz.underlying9
  a9 := Tryz.isAgg9
  z9 := Tryz.sizeOf9
  v9 := Tryz.zeroValue9
  t31 := Tryz.underlying49
  a31 := Tryz.isAgg49
  z31 := Tryz.sizeOf49
  v31 := Tryz.zeroValue49
  t46 := Tryz.underlying124
  a46 := Tryz.isAgg124
  z46 := Tryz.sizeOf124
  v46 := Tryz.zeroValue124
  t51 := Tryz.underlying145
  a51 := Tryz.isAgg145
  z51 := Tryz.sizeOf145
  v51 := Tryz.zeroValue145
  t53 := Tryz.underlying147
  a53 := Tryz.isAgg147
  z53 := Tryz.sizeOf147
  v53 := Tryz.zeroValue147
  t131 := Tryz.underlying26
  a131 := Tryz.isAgg26
  z131 := Tryz.sizeOf26
  v131 := Tryz.zeroValue26
  t182 := Tryz.underlying138
  a182 := Tryz.isAgg138
  z182 := Tryz.sizeOf138
  v182 := Tryz.zeroValue138
  t183 := Tryz.underlying139
  a183 := Tryz.isAgg139
  z183 := Tryz.sizeOf139
  v183 := Tryz.zeroValue139
  t218 := Tryz.underlying156
  a218 := Tryz.isAgg156
  z218 := Tryz.sizeOf156
  v218 := Tryz.zeroValue156
  t222 := Tryz.underlying160
  a222 := Tryz.isAgg160
  z222 := Tryz.sizeOf160
  v222 := Tryz.zeroValue160
  t228 := Tryz.underlying162
  a228 := Tryz.isAgg162
  z228 := Tryz.sizeOf162
  v228 := Tryz.zeroValue162
  t229 := Tryz.underlying163
  a229 := Tryz.isAgg163
  z229 := Tryz.sizeOf163
  v229 := Tryz.zeroValue163 }
def Tryz.lays194_ren : Go.Shelf.Ren := ⟨fun | 194 => 95 | n => n, fun | 31 => 49 | 9 => 9 | 3 => 3 | 4 => 4 | 0 => 0 | n => n, fun | n => n⟩
theorem Tryz.lays194 : Go.Proofs.Lays.n194 Tryz.prog Tryz.lays194_ren := {
  mixed := by kernel_rfl
  f194 := Tryz.func95.trans (congrArg some (by kernel_rfl))
  t0 := Tryz.underlying0
  a0 := Tryz.isAgg0
  z0 := Tryz.sizeOf0
  v0 := Tryz.zeroValue0
  t3 := Tryz.underlying3
  a3 := Tryz.isAgg3
  z3 := Tryz.sizeOf3
  v3 := Tryz.zeroValue3
  t4 := Tryz.underlying4
  a4 := Tryz.isAgg4
  z4 := Tryz.sizeOf4
  v4 := Tryz.zeroValue4
  t9 := Tryz.underlying9
  a9 := Tryz.isAgg9
  z9 := Tryz.sizeOf9
  v9 := Tryz.zeroValue9
  t31 := Tryz.underlying49
  a31 := Tryz.isAgg49
  z31 := Tryz.sizeOf49
  v31 := Tryz.zeroValue49 }
end Go.Proofs
namespace Go.Proofs.YtfhffcefpnkllaaGreatDoor.P
open Go.RowKit Go.Proofs.YtfhffcefpnkllaaGreatDoorW.PrintWords Go.Proofs.YtfhffcefpnkllaaGreatDoorW.PrintLast Go.Proofs.YtfhffcefpnkllaaGreatDoorW.PrintMore
attribute [local go_sem] max2_int min2_int max_two min_two max_three min_three max_four min_four
open Go.Shelf Go.Sort
attribute [local go_sem] Oper.semAt_some
namespace SV
def upto {α : Type} (f : Nat → α) (k : Nat) : List α := (List.range k).map f
theorem upto_succ {α : Type} (f : Nat → α) (k : Nat) : upto f (k + 1) = upto f k ++ [f k] := by simp [upto, List.range_succ]
theorem upto_length {α : Type} (f : Nat → α) (k : Nat) : (upto f k).length = k := by simp [upto]
theorem upto_all (zs : List (List UInt8)) : upto (fun j => zs[j]?.getD []) zs.length = zs := by
 apply List.ext_getElem
 ·
  simp [upto]
 ·
  intro i h1 h2
  simp [upto, h2]
theorem upto_take (zs : List (List UInt8)) {k : Nat} (hk : k ≤ zs.length) : upto (fun j => zs[j]?.getD []) k = zs.take k := by
 apply List.ext_getElem
 ·
  simp [upto, hk]
 ·
  intro i h1 h2
  have : i < zs.length := by simp [upto] at h1; omega
  simp [upto, this]
set_option maxHeartbeats 2000000 in
theorem values1_in (F : Fence) (n : Nat) (h7 : F.fn 117) (hro : F.round = none) (hn : 1 ≤ n) (l Bs n₀ : Nat) (ad : Addr) (len cap : Nat) (zs : List (List UInt8)) (hreach : len * 8 ≤ 140737488351232) (hb : ad.block < n₀) (J Jx : List (List UInt8) → World → Prop)
  (hY : ∀ pre x W, J pre W → pre.length < len → YieldAt F (n - 1) Tryz.prog l #[encStr x] W fun e W' =>
   (e = .returned (.bool true) ∧ J (pre ++ [x]) W' ∧ Below n₀ W W') ∨ (e = .returned (.bool false) ∧ Jx (pre ++ [x]) W'))
  (W : World) (hBs : W.cell? ⟨Bs, 0, none⟩ = some (.slice (some ad) len cap)) (hc : ∀ j, j < len → W.cell? (ad.add j) = some (encStr (zs[j]?.getD []))) (h0 : J [] W) :
  CallsIn F n Tryz.prog 117 #[.func (.yield l) #[] #[], .pointer (some ⟨Bs, 0, none⟩)] W fun e W' => (∃ v, e = .returned v) ∧
   ((∃ ys, ys = upto (fun j => zs[j]?.getD []) len ∧ J ys W') ∨ (∃ pre, (∃ k, k ≤ len ∧ pre = upto (fun j => zs[j]?.getD []) k) ∧ Jx pre W')) := by
 refine callsIn_of_wp Tryz.func117 rfl h7 ?_ hro
 simp only [Tryz.ntmps117, List.size_toArray, List.length_cons, List.length_nil, Nat.reduceAdd, Nat.reduceSub, Array.replicate_succ, Array.replicate_zero, List.push_toArray, List.append_toArray, List.nil_append, List.cons_append]
 gi_wp2
 gi_loopw [7] (fun i wr => ∃ k : Nat, k ≤ len ∧ i = .int .i64 k ∧ J (upto (fun j => zs[j]?.getD []) k) wr ∧ Below n₀ W wr)
  (fun i _ => len - (intOf i).toNat)
 case atStart => exact ⟨0, Nat.zero_le _, rfl, h0, Below.refl _ _⟩
 case round =>
  obtain ⟨k, hk, rfl, hJs, hnx⟩ := hrel
  have hcx : k < len → wr.cell? (ad.add k) = some (encStr (zs[k]?.getD [])) := fun h => (hnx.cell (p := ad.add k) (by rw [add_block]; exact hb)).trans (hc k h)
  by_cases hlt : k < len
  ·
   obtain ⟨fn, tmps, assign, body, hy, hR⟩ := hY _ (zs[k]?.getD []) wr hJs (by rw [upto_length]; exact hlt)
   have hcx' := hcx hlt
   gi_wp2
   refine hR.mono ?_
   rintro e W3 (⟨rfl, hJ3, hk3⟩ | ⟨rfl, hJx3⟩)
   ·
    gi_wp2
    go_roundw
    case rel => exact ⟨k + 1, by omega, by simp, by rw [upto_succ]; exact hJ3, hnx.trans hk3⟩
    case measure => simp [intOf]; omega
   ·
    gi_wp2
    refine bodyPost_ret (results_none rfl _ _ _) rfl ?_
    exact ⟨⟨_, rfl⟩, .inr ⟨_, ⟨k + 1, by omega, (upto_succ _ _).symm⟩, hJx3⟩⟩
  ·
   obtain rfl : k = len := by omega
   gi_wp2
   go_end0
   exact ⟨⟨_, rfl⟩, .inl ⟨_, rfl, hJs⟩⟩
end SV
namespace SV
def Strs (n₀ : Nat) (W : World) (a : Option Addr) (zs : List (List UInt8)) : Prop :=
 zs = [] ∨ ∃ ad : Addr, a = some ad ∧ ad.block < n₀ ∧ ∀ j, j < zs.length → W.cell? (ad.add j) = some (encStr (zs[j]?.getD []))
theorem Strs.below {n₀ : Nat} {A B : World} (h : Below n₀ A B) {a : Option Addr} {zs : List (List UInt8)} : Strs n₀ A a zs → Strs n₀ B a zs
 | .inl e => .inl e
 | .inr ⟨ad, e, hb, hc⟩ => .inr ⟨ad, e, hb, fun j hj => (h.cell (p := ad.add j) (by rw [add_block]; exact hb)).trans (hc j hj)⟩
set_option maxHeartbeats 1000000 in
theorem values1_nil_in (F : Fence) (n : Nat) (h7 : F.fn 117) (hro : F.round = none) (l Bs : Nat) (a : Option Addr) (c : Nat) (J : List (List UInt8) → World → Prop) (W : World) (hBs : W.cell? ⟨Bs, 0, none⟩ = some (.slice a 0 c)) (h0 : J [] W) :
  CallsIn F n Tryz.prog 117 #[.func (.yield l) #[] #[], .pointer (some ⟨Bs, 0, none⟩)] W fun e W' => (∃ v, e = .returned v) ∧ J [] W' := by
 refine callsIn_of_wp Tryz.func117 rfl h7 ?_ hro
 simp only [Tryz.ntmps117, List.size_toArray, List.length_cons, List.length_nil, Nat.reduceAdd, Nat.reduceSub, Array.replicate_succ, Array.replicate_zero, List.push_toArray, List.append_toArray, List.nil_append, List.cons_append]
 gi_wp2
 gi_loopw [7] (fun i wr => i = .int .i64 0 ∧ J [] wr) (fun _ _ => 0)
 case atStart => exact ⟨rfl, h0⟩
 case round =>
  obtain ⟨rfl, hJs⟩ := hrel
  gi_wp2
  go_end0
  exact ⟨⟨_, rfl⟩, hJs⟩
theorem values_stops (F : Fence) (n : Nat) (h7 : F.fn 117) (hro : F.round = none) (hn : 1 ≤ n) (Bs n₀ : Nat) (a : Option Addr) (c : Nat) (zs : List (List UInt8)) (hreach : zs.length * 8 ≤ 140737488351232) (w : World) (hBs : Bs < w.heap.size) (hn₀ : n₀ ≤ w.heap.size)
  (hc : w.cell? ⟨Bs, 0, none⟩ = some (.slice a zs.length c)) (hI : Strs n₀ w a zs) :
  SeqStopsK F n Tryz.prog 117 #[.pointer (some ⟨Bs, 0, none⟩)] (fun x : List UInt8 => #[encStr x]) (Below n₀) (fun ys => ys = zs) (fun pre => pre <+: zs) zs.length w := fun l J Jx W hW _ _ hY h0 => by
 have hc' := (hW.cell (p := ⟨Bs, 0, none⟩) hBs).trans hc
 rcases hI.below (hW.mono hn₀) with rfl | ⟨ad, rfl, hb, hcs⟩
 ·
  exact (values1_nil_in F n h7 hro l Bs a c J W hc' h0).mono fun e W' ⟨he, hj⟩ => ⟨he, .inl ⟨_, rfl, hj⟩⟩
 ·
  refine (values1_in F n h7 hro hn l Bs n₀ ad zs.length c zs hreach hb J Jx hY W hc' hcs h0).mono ?_
  rintro e W' ⟨he, ⟨ys, rfl, hj⟩ | ⟨pre, ⟨k, hk, rfl⟩, hj⟩⟩
  ·
   exact ⟨he, .inl ⟨_, upto_all zs, hj⟩⟩
  ·
   exact ⟨he, .inr ⟨_, by rw [upto_take zs hk]; exact List.take_prefix _ _, hj⟩⟩
theorem infoS : (Tryz.prog.info? 9).map (fun i => (i.zero, i.size, i.bytes)) = some (some (.string ⟨#[]⟩), 1, 16) := by kernel_rfl
set_option maxHeartbeats 2000000 in
theorem AppendSeq_in (F : Fence) (n : Nat) (h3 : F.fn 125) (h5 : F.fn 117) (hro : F.round = none) (hn : 3 ≤ n) (Bs : Nat) (a : Option Addr) (c : Nat) (zs : List (List UInt8)) (hlen : zs.length ≤ 4294967296) (w : World) (hBs : Bs < w.heap.size) (hc : w.cell? ⟨Bs, 0, none⟩ = some (.slice a zs.length c)) (hL : Strs w.heap.size w a zs) :
  CallsIn F n Tryz.prog 125 #[.slice none 0 0, .func (.func 117) #[] #[.pointer (some ⟨Bs, 0, none⟩)]] w fun e W' => ∃ v, e = .returned v ∧ W'.ownsRow w.heap.size 9 1 v zs.length (zs.map encStr) ∧ (v = .slice none 0 0 ↔ zs = []) ∧ Below w.heap.size w W' := by
 have h1 : 1 ≤ n := by omega
 obtain ⟨i0, hi, hz0, hz1, hz2⟩ := info_parts infoS
 refine callsIn_of_wp_marks Tryz.func125 rfl h3 ?_ hro
 simp only [Tryz.ntmps125, List.size_toArray, List.length_cons, List.length_nil, Nat.reduceAdd, Nat.reduceSub, Array.replicate_succ, Array.replicate_zero, List.push_toArray, List.append_toArray, List.nil_append, List.cons_append]
 gi_wp2
 have bO := Boxed.new w 49 (.slice none 0 0)
 have hB0 : Below w.heap.size w (w.alloc (.cells #[.slice none 0 0] 49)) := (Below.refl _ w).alloc (Nat.le_refl _) _
 have hcb : (w.alloc (.cells #[.slice none 0 0] 49)).cell? ⟨Bs, 0, none⟩ = some (.slice a zs.length c) := (hB0.cell (p := ⟨Bs, 0, none⟩) hBs).trans hc
 refine wpIn_rangeFunc_ownG hro h1 (gf := 117) (lb := #[.pointer (some ⟨Bs, 0, none⟩)]) rfl h5 (enters_of Tryz.func117 (by kernel_rfl) rfl)
  (values_stops F (n - 1) h5 hro (by omega) Bs w.heap.size a c zs (by omega) _ (by simp; omega) (by simp) hcb (hL.below hB0)) belowK_t (belowK_b (by simp)) (Below.refl _ _) (fun _ => rfl)
  (fun pre W => (∃ v, Boxed W w.heap.size 49 v ∧ W.ownsRow w.heap.size 9 1 v pre.length (pre.map encStr) ∧ (v = .slice none 0 0 ↔ pre = [])) ∧ Below w.heap.size w W)
  (fun _ _ _ => False)
  (OwnFrom.and (Own.from (holdsRow_own w.heap.size w.heap.size 49 9 1 (fun pre => pre.length) (fun pre => pre.map encStr) (fun pre v => v = .slice none 0 0 ↔ pre = [])) _) (ownFrom_below (Nat.le_refl _) (by simp)))
  (fun _ _ _ _ _ hs _ _ => hs)
  ⟨⟨_, bO, World.ownsRow_nil _ _ _ _, by simp⟩, hB0⟩
  (fun x => { tmps := #[.slice none 0 0, .func (.func 117) #[] #[.pointer (some ⟨Bs, 0, none⟩)], .pointer (some ⟨w.heap.size, 0, none⟩), undef, .slice none 0 0, encStr x, .func (.func 117) #[] #[.pointer (some ⟨Bs, 0, none⟩)], encStr x, undef, undef, undef, undef, undef], defers := [] }) ?assign ?body ?done ?stop
 case assign =>
  intro l x W K hK
  gi_wp2
  exact hK
 case body =>
  rintro l pre x W ⟨⟨v, hv, hrow, hnil⟩, hB⟩ hlt
  have hc := hv.cell
  gi_wp2_with (gi_at_builtin; refine wpListIn_append_own _ rfl _ _ 49 rfl w.heap.size 9 i0 (.string ⟨#[]⟩) 1 16 Tryz.underlying49 hi hz0 hz1 hz2 rfl (by decide) _ _ _ rfl (hrow.alloc _) ⟨W.heap.size, 0, none⟩ 1 1 [encStr x] rfl rfl (cell_one_new _ _ _) (by simp [Value.oneCell', encStr]) (by unfold maxLen; omega) (by omega) (by have := hB.size; simp; omega) ?_; intro v' w1 hown' hgrow _; obtain ⟨g', cap', rfl⟩ := ownsRow_succ hown'; obtain ⟨hv1, hv2, hr2, hk2, hb2⟩ := hv.appended (by decide) hrow hB.size (Nat.le_refl _) hown' hgrow; have hc1 := hv1.cell; have hf1 := hv1.frozen)
  exact ⟨hk2.from _, hb2, ⟨_, hv2, by simpa using hr2, by simp⟩, hB.trans hb2⟩
 case done =>
  rintro D ys W hD rfl ⟨⟨v, hv, hrow, hnil⟩, hB⟩ hK
  have hc := hv.cell
  gi_wp2
  refine ⟨by simp, .inl ⟨_, _, rfl, run_takeDeferred hK, ?_⟩⟩
  exact ⟨_, results_tmp rfl _ _ _, v, rfl, ownsRow_putObj hrow _ hK rfl, hnil, hB.trans (belowK_b (w := w) (Nat.le_refl _) W D _ _ (by simp at hD; omega) hK rfl rfl)⟩
 case stop =>
  rintro D c pre W _ _ h _
  exact h.elim
end SV
namespace SV
set_option maxHeartbeats 1000000 in
theorem Collect_calls (Bs : Nat) (a : Option Addr) (c : Nat) (zs : List (List UInt8)) (hlen : zs.length ≤ 4294967296) (w : World) (hBs : Bs < w.heap.size) (hc : w.cell? ⟨Bs, 0, none⟩ = some (.slice a zs.length c)) (hL : Strs w.heap.size w a zs) :
  Calls Tryz.prog 115 #[.func (.func 117) #[] #[.pointer (some ⟨Bs, 0, none⟩)]] w fun e W' => ∃ v, e = .returned v ∧ W'.ownsRow w.heap.size 9 1 v zs.length (zs.map encStr) ∧ (v = .slice none 0 0 ↔ zs = []) ∧ Below w.heap.size w W' := by
 have HA := Aside0.mk ((callsIn_wide (n := 5)).1 (AppendSeq_in Fence.wide 5 trivial trivial rfl (by omega) Bs a c zs hlen w hBs hc hL))
 clear hc hL
 go_enter Tryz.func115, Tryz.ntmps115
 go_wp2_with fail
 refine HA.out.mono ?_
 clear HA
 rintro e w' ⟨v, rfl, hrow, hnil, hb⟩
 have H := Aside0.mk (And.intro hrow (And.intro hnil hb))
 clear hrow hnil hb
 go_wp2_with fail
 go_ret
 exact ⟨v, rfl, H.out.1, H.out.2.1, H.out.2.2⟩
def srt (zs : List (List UInt8)) : List (List UInt8) := zs.mergeSort fun x y => decide (x ≤ y)
theorem srt_length (zs : List (List UInt8)) : (srt zs).length = zs.length := List.length_mergeSort zs
set_option maxHeartbeats 2000000 in
theorem Sorted_calls (Bs : Nat) (a : Option Addr) (c : Nat) (zs : List (List UInt8)) (hlen : zs.length ≤ 4294967296) (w : World) (hBs : Bs < w.heap.size) (hc : w.cell? ⟨Bs, 0, none⟩ = some (.slice a zs.length c)) (hL : Strs w.heap.size w a zs) :
  Calls Tryz.prog 96 #[.func (.func 117) #[] #[.pointer (some ⟨Bs, 0, none⟩)]] w fun e W' => ∃ v, e = .returned v ∧ W'.ownsRow w.heap.size 9 1 v (srt zs).length ((srt zs).map encStr) ∧ (v = .slice none 0 0 ↔ zs = []) ∧ Below w.heap.size w W' := by
 have HA := Aside0.mk (Collect_calls Bs a c zs hlen w hBs hc hL)
 clear hc hL
 go_enter Tryz.func96, Tryz.ntmps96
 go_wp2_with fail
 refine HA.out.mono ?_
 clear HA
 rintro e W ⟨v, rfl, hrow, hnil, hb⟩
 rcases hrow.2 with ⟨rfl, hz⟩ | ⟨gb, cap, cur, rfl, hbase, hgb, r1, r2, r3, r4⟩
 ·
  have hss : zs = [] := List.eq_nil_of_length_eq_zero hz
  have H := Aside0.mk (And.intro hrow hb)
  clear hrow hb hnil hz
  go_wp2_with fail
  refine (Go.Proofs.Any.slices_Sort_string_none Go.Proofs.Tryz.lays190 none 0 _).mono ?_
  rintro e w' ⟨rfl, rfl⟩
  go_wp2_with fail
  go_ret
  subst hss
  exact ⟨.slice none 0 0, rfl, by simpa [srt] using H.out.1, by simp, H.out.2⟩
 ·
  have hH : Holds encStr W gb 0 zs.toArray := holds_of_block hgb (by simpa using r4)
  have hgl : gb < W.heap.size := (Array.getElem?_eq_some_iff.1 hgb).1
  have HS := Aside0.mk (Go.Proofs.Any.slices_Sort_string Go.Proofs.Tryz.lays190 gb 0 cap zs W hH hgl (by omega))
  have H := Aside0.mk (And.intro hb (And.intro hbase (And.intro hgb (And.intro r1 (And.intro r2 r3)))))
  have HN := Aside0.mk (show zs ≠ [] from fun e => by have := hnil.2 e; cases this)
  clear hrow hb hnil hH hgl hgb r1 r2 r3 r4 hbase
  go_wp2_with fail
  refine HS.out.mono ?_
  clear HS
  rintro e w' ⟨rfl, nn, os, rfl⟩
  go_wp2_with fail
  go_ret
  obtain ⟨hb, hbase, hgb, r1, r2, r3⟩ := H.out
  exact ⟨_, rfl, by rw [srt_length]; exact ownsRow_sorted (by simp) hbase hgb r1 r2 r3, ⟨(fun e => by cases e), fun e => absurd e HN.out⟩, hb.grown (grownBy_sorted _) hb.size (fun j hj => by cases hj; exact hbase)⟩
end SV
namespace SV
theorem Strs.mono {n₀ n₁ : Nat} (h : n₀ ≤ n₁) {W : World} {a : Option Addr} {zs : List (List UInt8)} : Strs n₀ W a zs → Strs n₁ W a zs
 | .inl e => .inl e
 | .inr ⟨ad, e, hb, hc⟩ => .inr ⟨ad, e, Nat.lt_of_lt_of_le hb h, hc⟩
set_option maxHeartbeats 1000000 in
theorem Values_calls (a : Option Addr) (n c : Nat) (w : World) :
  Calls Tryz.prog 97 #[.slice a n c] w fun e w' => e = .returned (.func (.func 117) #[] #[.pointer (some ⟨w.heap.size, 0, none⟩)]) ∧ w' = w.alloc (.cells #[.slice a n c] 49) := by
 go_enter Tryz.func97, Tryz.ntmps97
 go_wp2
 go_ret
 exact ⟨rfl, rfl⟩
theorem Compact_calls {w : World} {base : Nat} {v : Value} {ss : List (List UInt8)} (hrow : w.ownsRow base 9 1 v ss.length (ss.map encStr)) (A : Option Addr) (c : Nat) (hv : v = .slice A ss.length c) (hlen : ss.length ≤ 4294967296) :
  Calls Tryz.prog 95 #[.slice A ss.length c] w fun e w' => ∃ v', e = .returned v' ∧ w'.ownsRow base 9 1 v' (Go.Lib.compact ss).length ((Go.Lib.compact ss).map encStr) ∧ (∀ b, b ≤ base → b ≤ w.heap.size → Below b w w') := by
 rcases hrow.2 with ⟨h1, hz⟩ | ⟨g, cap, cur, h1, hbase, hgb, r1, r2, r3, r4⟩
 ·
  have hss : ss = [] := List.eq_nil_of_length_eq_zero hz
  subst hss
  rw [h1] at hv; cases hv
  refine (Go.Proofs.Any.slices_Compact_string_empty Go.Proofs.Tryz.lays194 none 0 w).mono ?_
  rintro e w' ⟨rfl, rfl⟩
  exact ⟨_, rfl, World.ownsRow_nil _ _ _ _, fun b _ _ => Below.refl _ _⟩
 ·
  rw [h1] at hv; cases hv
  have hH : Holds encStr w g 0 ss.toArray := holds_of_block hgb (by simpa using r4)
  have hcap : ss.length ≤ c := by omega
  refine (Go.Proofs.Any.slices_Compact_string Go.Proofs.Tryz.lays194 g 0 c ss w hH (by omega) hcap).mono ?_
  rintro e w' ⟨rfl, q, rfl⟩
  rw [h1] at hrow
  have hle := Go.Lib.compact_length_le ss
  have hc := Go.Lib.ownsRow_putRow (q := q) (k := (Go.Lib.compact ss).length) (ys := Go.Lib.compact ss ++ List.replicate (ss.length - (Go.Lib.compact ss).length) []) hrow (by simp; omega) (by omega)
  rw [List.take_left] at hc
  exact ⟨_, rfl, hc, fun b hb hb2 => Go.Lib.below_putRow (Below.refl _ _) (Nat.le_trans hb hbase)⟩
end SV
end Go.Proofs.YtfhffcefpnkllaaGreatDoor.P
namespace Go.Proofs.YtfhffcefpnkllaaGreatDoor.P
open Go.RowKit Go.Proofs.YtfhffcefpnkllaaGreatDoorW.PrintWords Go.Proofs.YtfhffcefpnkllaaGreatDoorW.PrintLast Go.Proofs.YtfhffcefpnkllaaGreatDoorW.PrintMore
open Go.Proofs.YtfhffcefpnkllaaGreatDoorW.PrintWords renaming blk_frozen → bF_, blk_cell → bC_, below_set → bS_, blk_below → bB_, below_step → bT_, pw_below_drewN → bN_, below_size → bZ_, below_drew1 → bD_, below_alloc → bA_, blk_far → bR_, gate_callee → gC_, gate_dst → gD_, box_event → bE_, blk_drew → b1_, blk_put → bP_, blk_drewN → b2_, blk_alloc → b3_, blk_lt → bL_, cell_far → cF_
open Go.Proofs.YtfhffcefpnkllaaGreatDoorW.PrintLast renaming any_of → aO_, i64_w → i6_, i32_w → i3_, take_ofW → tW_
open Go.Proofs.YtfhffcefpnkllaaGreatDoorW.PrintWords.Kd renaming R_below → kB_, R_mono → kM_, R_far → kF_, R_reads' → kR_, R_types → kT_, R_slice → kS_, R_celln → kC_, R_alloc → k1_, R_drewN → k2_, R_drew → k3_, C_below → k4_, R_lower → k5_, R_ne → k6_, own_blk → k7_
open Go.Proofs.YtfhffcefpnkllaaGreatDoorW.PrintWords.LeO renaming none → l0_, bind → l1_, ite → l2_, refl → l3_
open World renaming block_lt_of_cell? → wB_
open _root_.Option renaming bind_eq_some_iff → oB_
open _root_.ByteArray renaming empty → eB_
open List renaming setIfInBounds_toArray → sA_, set_cons_zero → sB_, set_cons_succ → sC_, map_toArray → sD_, map_cons → sE_, map_nil → sF_, length_drop → sG_, length_take → sH_
open Bool renaming true → ty, false → fy
open Aside0 renaming mk → aM_
attribute [local go_sem] max2_int min2_int max_two min_two max_three min_three max_four min_four
def impl_set.f (l0 : List ByteArray) : Option (List ByteArray) := if l0.length ≤ 4294967296 then some ((Go.Lib.compact ((l0.map fun s => s.data.toList).mergeSort fun x y => decide (x ≤ y))).map fun l => (⟨l.toArray⟩ : ByteArray)) else none
theorem impl_set.strs {w : World} {A0 : Option Addr} {l0 : List ByteArray} (hr : Kd.C Kd.string w A0 l0.length l0) : SV.Strs w.heap.size w A0 (l0.map fun s => s.data.toList) := by
 cases l0 with
 | nil => exact .inl rfl
 | cons x l =>
  obtain ⟨ad, e, h0⟩ := Kd.at_string hr 0 (by omega) (by simp)
  have hall : ∀ j, j < (x :: l).length → w.cell? (ad.add j) = some (.string ((x :: l).getD j eB_)) := by
   intro j hj
   obtain ⟨ad', e', h'⟩ := Kd.at_string hr j (by omega) (by omega)
   rw [e] at e'; cases e'
   simpa [rdOf] using h'
  refine .inr ⟨ad, e, by have := wB_ w _ h0; rwa [add_block] at this, fun j hj => ?_⟩
  rw [hall j (by simpa using hj)]
  have hj' : j < (x :: l).length := by simpa using hj
  simp only [Go.Proofs.encStr, List.getElem?_map, List.getD_eq_getElem?_getD, List.getElem?_eq_getElem hj', Option.map_some, Option.getD_some]
theorem impl_set.encs_eq (zs : List (List UInt8)) : encs Value.string (zs.map fun l => (⟨l.toArray⟩ : ByteArray)) = zs.map Go.Proofs.encStr := by
 simp [encs, Go.Proofs.encStr, Function.comp_def]
set_option maxHeartbeats 2000000 in
theorem impl_set.calls (A0 : Option Addr) (c0 : Nat) (l0 : List ByteArray) (r : List ByteArray) (w : World) (hr0 : Kd.C Kd.string w A0 l0.length l0) (hc0 : l0.length ≤ c0) (h : impl_set.f l0 = some r) :
  Calls Tryz.prog 82 #[.slice A0 l0.length c0] w fun e w' => ∃ v0_ : Value, e = .returned (v0_) ∧ Kd.R Kd.string 9 w' w.heap.size (fun _ => True) v0_ r ∧ Below w.heap.size w w' := by
 unfold impl_set.f at h
 by_cases hlen : l0.length ≤ 4294967296
 rotate_left
 ·
  rw [if_neg hlen] at h; cases h
 rw [if_pos hlen] at h
 obtain ⟨zs, hzs⟩ : ∃ zs, zs = l0.map fun s => s.data.toList := ⟨_, rfl⟩
 have hzl : zs.length = l0.length := by rw [hzs]; simp
 have HS := aM_ (show SV.Strs w.heap.size w A0 zs from hzs ▸ impl_set.strs hr0)
 have HR := aM_ (show (Go.Lib.compact (SV.srt zs)).map (fun l => (⟨l.toArray⟩ : ByteArray)) = r from by rw [hzs]; exact Option.some.inj h)
 have HL := aM_ hzl
 have HN := aM_ hlen
 clear hr0 hc0 h hzs hzl hlen
 go_enter Tryz.func82, Tryz.ntmps82
 go_wp2_with fail
 refine (SV.Values_calls A0 l0.length c0 w).mono ?_
 rintro e w1 ⟨rfl, rfl⟩
 have hb1 : Below w.heap.size w (w.alloc (.cells #[.slice A0 l0.length c0] 49)) := (Below.refl _ w).alloc (Nat.le_refl _) _
 have HX := aM_ (SV.Sorted_calls w.heap.size A0 c0 zs (by rw [HL.out]; exact HN.out) (w.alloc (.cells #[.slice A0 l0.length c0] 49)) (by simp) (by rw [HL.out]; simp) ((HS.out.below hb1).mono (by simp)))
 have HB1 := aM_ hb1
 clear hb1
 go_wp2_with fail
 refine HX.out.mono ?_
 clear HX
 rintro e W ⟨v, rfl, hrow, hnil, hb⟩
 obtain ⟨A, c, hv⟩ := own_slice hrow
 have HB2 := aM_ (HB1.out.trans (hb.mono (by simp)))
 have HC := aM_ (SV.Compact_calls hrow A c hv (by rw [SV.srt_length, HL.out]; exact HN.out))
 have HZ := aM_ hb.size
 subst hv
 clear hrow hnil hb
 go_wp2_with fail
 refine HC.out.mono ?_
 clear HC
 rintro e W2 ⟨v2, rfl, hrow2, hb2⟩
 have H2 := aM_ (And.intro hrow2 hb2)
 clear hrow2 hb2
 go_wp2_with fail
 go_ret
 refine ⟨v2, rfl, ?_, HB2.out.trans (H2.out.2 _ (by simp) HB2.out.size)⟩
 rw [← HR.out]
 refine k5_ (Kd.R_of_own (h1 := fun _ => rfl) ?_ (fun _ _ => trivial)) (show w.heap.size ≤ (w.alloc (.cells #[.slice A0 l0.length c0] 49)).heap.size from by simp)
 rw [impl_set.encs_eq, List.length_map]
 exact H2.out.1
def cmp_isNaN_string.f (a0 : ByteArray) : Option (Bool) := some (a0.toList != a0.toList)
theorem cmp_isNaN_string.calls (a0 : ByteArray) (r : Bool) (w : World) (h : cmp_isNaN_string.f a0 = some r) :
  Calls Tryz.prog 124 #[.string a0] w fun e w' => e = .returned (.bool r) ∧ Drawn0 w w' := by
 have H : (some (a0.toList != a0.toList)) = some r := h
 clear h
 obtain rfl := Option.some.inj H
 go_enter Tryz.func124, Tryz.ntmps124
 go_wp2
 go_ret
 exact ⟨by rfl, by repeat (first | exact Drawn0.refl _ | apply Drawn0.step)⟩
def cmp_Less_string.f (a0 : ByteArray) (a1 : ByteArray) : Option (Bool) := (cmp_isNaN_string.f a0).bind fun t325 => (if t325 = true then ((cmp_isNaN_string.f a1).bind fun t326 => (if t326 = true then (some (Op.bytesLess a0.toList a1.toList)) else (some true))) else (some (Op.bytesLess a0.toList a1.toList)))
theorem cmp_Less_string.calls (a0 : ByteArray) (a1 : ByteArray) (r : Bool) (w : World) (h : cmp_Less_string.f a0 a1 = some r) :
  Calls Tryz.prog 113 #[.string a0, .string a1] w fun e w' => e = .returned (.bool r) ∧ Drawn0 w w' := by
 have H : ((cmp_isNaN_string.f a0).bind fun t325 => (if t325 = true then ((cmp_isNaN_string.f a1).bind fun t326 => (if t326 = true then (some (Op.bytesLess a0.toList a1.toList)) else (some true))) else (some (Op.bytesLess a0.toList a1.toList)))) = some r := h
 clear h
 replace H := oB_.mp H
 obtain ⟨t325, A30, H⟩ := H
 try dsimp only at H
 have A3 := aM_ A30
 clear A30
 by_cases c4 : t325 = true
 ·
  subst c4
  rw [if_pos rfl] at H
  replace H := oB_.mp H
  obtain ⟨t326, A50, H⟩ := H
  try dsimp only at H
  have A5 := aM_ A50
  clear A50
  by_cases c6 : t326 = true
  ·
   subst c6
   rw [if_pos rfl] at H
   obtain rfl := Option.some.inj H
   go_enter Tryz.func113, Tryz.ntmps113
   go_wp2_with (first | ((with_reducible refine gC_ (f := 124) rfl ?_); refine goesL_ (some 6) rfl rfl Tryz.func124 (by kernel_rfl) rfl #[.string a0] rfl (by (try simp only [sD_, sE_, sF_]); rfl) ?_; (with_reducible refine (cmp_isNaN_string.calls a0 true _ A3.out).mono ?_); rintro e w' ⟨rfl, ⟨nd, rfl⟩⟩; refine ⟨_, rfl, ?_⟩) | (go_at_call 124; (with_reducible refine (cmp_isNaN_string.calls a1 true _ A5.out).mono ?_); rintro e w' ⟨rfl, ⟨nd, rfl⟩⟩))
   go_ret
   exact ⟨by rfl, by repeat (first | exact Drawn0.refl _ | apply Drawn0.step)⟩
  ·
   replace c6 := Bool.eq_false_iff.mpr c6
   subst c6
   have H1 : (some true) = some r := by rw [if_neg (show ¬ (false = true) by decide)] at H; exact H
   clear H
   have H := H1
   clear H1
   obtain rfl := Option.some.inj H
   go_enter Tryz.func113, Tryz.ntmps113
   go_wp2_with (first | ((with_reducible refine gC_ (f := 124) rfl ?_); refine goesL_ (some 6) rfl rfl Tryz.func124 (by kernel_rfl) rfl #[.string a0] rfl (by (try simp only [sD_, sE_, sF_]); rfl) ?_; (with_reducible refine (cmp_isNaN_string.calls a0 true _ A3.out).mono ?_); rintro e w' ⟨rfl, ⟨nd, rfl⟩⟩; refine ⟨_, rfl, ?_⟩) | (go_at_call 124; (with_reducible refine (cmp_isNaN_string.calls a1 false _ A5.out).mono ?_); rintro e w' ⟨rfl, ⟨nd, rfl⟩⟩))
   go_ret
   exact ⟨by rfl, by repeat (first | exact Drawn0.refl _ | apply Drawn0.step)⟩
 ·
  replace c4 := Bool.eq_false_iff.mpr c4
  subst c4
  have H1 : (some (Op.bytesLess a0.toList a1.toList)) = some r := by rw [if_neg (show ¬ (false = true) by decide)] at H; exact H
  clear H
  have H := H1
  clear H1
  obtain rfl := Option.some.inj H
  go_enter Tryz.func113, Tryz.ntmps113
  go_wp2_with (first | ((with_reducible refine gC_ (f := 124) rfl ?_); refine goesL_ (some 6) rfl rfl Tryz.func124 (by kernel_rfl) rfl #[.string a0] rfl (by (try simp only [sD_, sE_, sF_]); rfl) ?_; (with_reducible refine (cmp_isNaN_string.calls a0 false _ A3.out).mono ?_); rintro e w' ⟨rfl, ⟨nd, rfl⟩⟩; refine ⟨_, rfl, ?_⟩))
  go_ret
  exact ⟨by rfl, by repeat (first | exact Drawn0.refl _ | apply Drawn0.step)⟩
def slices_isNaN_string.f (a0 : ByteArray) : Option (Bool) := some (a0.toList != a0.toList)
theorem slices_isNaN_string.calls (a0 : ByteArray) (r : Bool) (w : World) (h : slices_isNaN_string.f a0 = some r) :
  Calls Tryz.prog 114 #[.string a0] w fun e w' => e = .returned (.bool r) ∧ Drawn0 w w' := by
 have H : (some (a0.toList != a0.toList)) = some r := h
 clear h
 obtain rfl := Option.some.inj H
 go_enter Tryz.func114, Tryz.ntmps114
 go_wp2
 go_ret
 exact ⟨by rfl, by repeat (first | exact Drawn0.refl _ | apply Drawn0.step)⟩
def slices_BinarySearch_string_string.l0 : Nat → List ByteArray → ByteArray → Int → Int → Int → Option (Int × Bool)
 | 0, _, _, _, _, _ => none
 | k + 1, x0, x1, x6, x7, x8 => if x7 < x8 then (if 0 ≤ (wrap64 ((IntKind.u64.wrap (wrap64 (x7 + x8))) / 2)) then (if (wrap64 ((IntKind.u64.wrap (wrap64 (x7 + x8))) / 2)) < (x0.length : Int) then ((cmp_Less_string.f (rdOf eB_ x0 (wrap64 ((IntKind.u64.wrap (wrap64 (x7 + x8))) / 2))) x1).bind fun t328 => (if t328 = true then (slices_BinarySearch_string_string.l0 k x0 x1 x6 (wrap64 ((wrap64 ((IntKind.u64.wrap (wrap64 (x7 + x8))) / 2)) + 1)) x8) else (slices_BinarySearch_string_string.l0 k x0 x1 x6 x7 (wrap64 ((IntKind.u64.wrap (wrap64 (x7 + x8))) / 2))))) else (none)) else (none)) else (if x7 < x6 then (if 0 ≤ x7 then (if x7 < (x0.length : Int) then (if (rdOf eB_ x0 x7).toList = x1.toList then (some (x7, true)) else ((slices_isNaN_string.f (rdOf eB_ x0 x7)).bind fun t331 => (if t331 = true then ((slices_isNaN_string.f x1).bind fun t332 => (some (x7, t332))) else (some (x7, false))))) else (none)) else (none)) else (some (x7, false)))
def slices_BinarySearch_string_string.f (k : Nat) (l0 : List ByteArray) (a1 : ByteArray) : Option (Int × Bool) := slices_BinarySearch_string_string.l0 k l0 a1 (l0.length : Int) 0 (l0.length : Int)
theorem slices_BinarySearch_string_string.mono_l : ∀ k, (∀ y0 y1 y2 y3 y4, LeO (slices_BinarySearch_string_string.l0 k y0 y1 y2 y3 y4) (slices_BinarySearch_string_string.l0 (k + 1) y0 y1 y2 y3 y4))
 | 0 => fun _ _ _ _ _ r h => by simp [slices_BinarySearch_string_string.l0] at h
 | k + 1 => by
  have ih0 := slices_BinarySearch_string_string.mono_l k
  ·
   intro y0 y1 y2 y3 y4
   unfold slices_BinarySearch_string_string.l0
   repeat' first
   | (with_reducible exact ih0 _ _ _ _ _)
   | (with_reducible exact l3_ _)
   | (with_reducible exact l0_ _)
   | (with_reducible refine l2_ ?_ ?_)
   | (with_reducible refine l1_ ?_ (fun _ => ?_))
   | exact ih0 _ _ _ _ _
   | exact l0_ _
   | refine l2_ ?_ ?_
   | refine l1_ ?_ (fun _ => ?_)
theorem slices_BinarySearch_string_string.mono : ∀ a0 a1 k, LeO (slices_BinarySearch_string_string.f k a0 a1) (slices_BinarySearch_string_string.f (k + 1) a0 a1) := by
 intro a0 a1 k
 have ih0 := slices_BinarySearch_string_string.mono_l k
 unfold slices_BinarySearch_string_string.f
 repeat' first
   | (with_reducible exact ih0 _ _ _ _ _)
   | (with_reducible exact l3_ _)
   | (with_reducible exact l0_ _)
   | (with_reducible refine l2_ ?_ ?_)
   | (with_reducible refine l1_ ?_ (fun _ => ?_))
   | exact ih0 _ _ _ _ _
   | exact l0_ _
   | refine l2_ ?_ ?_
   | refine l1_ ?_ (fun _ => ?_)
theorem slices_BinarySearch_string_string.calls (k : Nat) (A0 : Option Addr) (c0 : Nat) (l0 : List ByteArray) (a1 : ByteArray) (r1 : Int) (r2 : Bool) (w : World) (hr0 : Kd.C Kd.string w A0 l0.length l0) (hc0 : l0.length ≤ c0) (h : slices_BinarySearch_string_string.f k l0 a1 = some (r1, r2)) :
  Calls Tryz.prog 93 #[.slice A0 l0.length c0, .string a1] w fun e w' => e = .returned (.tuple #[.int .i64 r1, .bool r2]) ∧ Drawn0 w w' := by
 have HR0 := aM_ hr0
 have HC0 := aM_ hc0
 clear hr0 hc0
 have H : (slices_BinarySearch_string_string.l0 k l0 a1 (l0.length : Int) 0 (l0.length : Int)) = some (r1, r2) := h
 clear h
 have H' := aM_ H
 clear H
 go_enter Tryz.func93, Tryz.ntmps93
 go_wp2
 go_loopg [7, 8] k (fun kq v7 v8 w' => ∃ (x7_1 : Int) (x8_1 : Int), v7 = .int .i64 x7_1 ∧ v8 = .int .i64 x8_1 ∧ Aside0 (slices_BinarySearch_string_string.l0 kq l0 a1 (l0.length : Int) x7_1 x8_1 = some (r1, r2)) ∧ Aside0 (kq ≤ k) ∧ Drawn0 w w')
 case atStart => exact ⟨(0), ((l0.length : Int)), (by rfl), (by rfl), H', ⟨Nat.le_refl _⟩, by repeat (first | exact Drawn0.refl _ | apply Drawn0.step)⟩
 case round =>
  clear H'
  try clear p2
  obtain ⟨x7_1, x8_1, rfl, rfl, HA, HK1, ⟨m1, rfl⟩⟩ := hrel
  cases gk with
  | zero => exact absurd HA.out (by simp [slices_BinarySearch_string_string.l0])
  | succ k1 =>
   have H := HA.out
   clear HA
   simp only [slices_BinarySearch_string_string.l0] at H
   by_cases c3 : x7_1 < x8_1
   ·
    rw [if_pos c3] at H
    have c3b0 := decide_eq_true c3
    clear c3
    obtain ⟨ji4, hji4⟩ : ∃ j_ : Int, (wrap64 ((IntKind.u64.wrap (wrap64 (x7_1 + x8_1))) / 2)) = j_ := ⟨_, rfl⟩
    replace H : (if 0 ≤ (ji4) then (if (ji4) < (l0.length : Int) then ((cmp_Less_string.f (rdOf eB_ l0 (ji4)) a1).bind fun t328 => (if t328 = true then (slices_BinarySearch_string_string.l0 k1 l0 a1 (l0.length : Int) (wrap64 ((ji4) + 1)) x8_1) else (slices_BinarySearch_string_string.l0 k1 l0 a1 (l0.length : Int) x7_1 ji4))) else (none)) else (none)) = some (r1, r2) := by first | (rw [hji4] at H; exact H) | (simp only [hji4] at H ⊢; exact H)
    have hji4w : (IntKind.i64.wrap ((IntKind.u64.wrap (wrap64 (x7_1 + x8_1))) / 2)) = ji4 := (i6_ _).trans hji4
    by_cases c5 : 0 ≤ (ji4)
    ·
     rw [if_pos c5] at H
     have c5b0 := decide_eq_true c5
     clear c5
     by_cases c6 : (ji4) < (l0.length : Int)
     ·
      rw [if_pos c6] at H
      have c6b0 := decide_eq_true c6
      clear c6
      replace H := oB_.mp H
      obtain ⟨t328, A70, H⟩ := H
      try dsimp only at H
      have A7 := aM_ A70
      clear A70
      by_cases c8 : t328 = true
      ·
       subst c8
       rw [if_pos rfl] at H
       have H' := aM_ H
       clear H
       have p327 : 0 ≤ ((ji4) : Int) := of_decide_eq_true (by (with_reducible assumption))
       have q327 : (ji4) < (l0.length : Int) := of_decide_eq_true (by (with_reducible assumption))
       obtain ⟨ad327, e327, hx327_0⟩ := Kd.at_string HR0.out (ji4) p327 q327
       cases e327
       replace p327 := eq_true p327
       replace q327 := eq_true q327
       go_wp2_with (first | ((with_reducible refine gC_ (f := 113) rfl ?_); refine goesL_ (some 27) rfl rfl Tryz.func113 (by kernel_rfl) rfl #[.string (rdOf eB_ l0 (ji4)), .string a1] rfl (by (try simp only [sD_, sE_, sF_]); rfl) ?_; (with_reducible refine (cmp_Less_string.calls (rdOf eB_ l0 (ji4)) a1 true _ A7.out).mono ?_); rintro e w' ⟨rfl, ⟨nd, rfl⟩⟩; refine ⟨_, rfl, ?_⟩))
       go_roundg k1
       case measure => have := HK1.out; omega
       case rel => exact ⟨(wrap64 ((ji4) + 1)), (x8_1), (by rfl), (by rfl), H', ⟨by have := HK1.out; omega⟩, by repeat (first | exact Drawn0.refl _ | apply Drawn0.step)⟩
      ·
       replace c8 := Bool.eq_false_iff.mpr c8
       subst c8
       have H1 : (slices_BinarySearch_string_string.l0 k1 l0 a1 (l0.length : Int) x7_1 ji4) = some (r1, r2) := by rw [if_neg (show ¬ (false = true) by decide)] at H; exact H
       clear H
       have H := H1
       clear H1
       have H' := aM_ H
       clear H
       have p327 : 0 ≤ ((ji4) : Int) := of_decide_eq_true (by (with_reducible assumption))
       have q327 : (ji4) < (l0.length : Int) := of_decide_eq_true (by (with_reducible assumption))
       obtain ⟨ad327, e327, hx327_0⟩ := Kd.at_string HR0.out (ji4) p327 q327
       cases e327
       replace p327 := eq_true p327
       replace q327 := eq_true q327
       go_wp2_with (first | ((with_reducible refine gC_ (f := 113) rfl ?_); refine goesL_ (some 27) rfl rfl Tryz.func113 (by kernel_rfl) rfl #[.string (rdOf eB_ l0 (ji4)), .string a1] rfl (by (try simp only [sD_, sE_, sF_]); rfl) ?_; (with_reducible refine (cmp_Less_string.calls (rdOf eB_ l0 (ji4)) a1 false _ A7.out).mono ?_); rintro e w' ⟨rfl, ⟨nd, rfl⟩⟩; refine ⟨_, rfl, ?_⟩))
       go_roundg k1
       case measure => have := HK1.out; omega
       case rel => exact ⟨(x7_1), (ji4), (by rfl), (by rfl), H', ⟨by have := HK1.out; omega⟩, by repeat (first | exact Drawn0.refl _ | apply Drawn0.step)⟩
     ·
      rw [if_neg c6] at H
      exact absurd H (by simp)
    ·
     rw [if_neg c5] at H
     exact absurd H (by simp)
   ·
    rw [if_neg c3] at H
    have c3b0 := decide_eq_false c3
    clear c3
    by_cases c9 : x7_1 < (l0.length : Int)
    ·
     rw [if_pos c9] at H
     have c9b0 := decide_eq_true c9
     clear c9
     by_cases c10 : 0 ≤ x7_1
     ·
      rw [if_pos c10] at H
      have c10b0 := decide_eq_true c10
      clear c10
      by_cases c11 : x7_1 < (l0.length : Int)
      ·
       rw [if_pos c11] at H
       have c11b0 := decide_eq_true c11
       clear c11
       by_cases c12 : (rdOf eB_ l0 x7_1).toList = a1.toList
       ·
        rw [if_pos c12] at H
        have c12b0 : ((rdOf eB_ l0 x7_1).toList == a1.toList) = true := beq_iff_eq.mpr c12
        have c12b1 : ((rdOf eB_ l0 x7_1).toList != a1.toList) = false := bne_eq_false_iff_eq.mpr c12
        clear c12
        simp only [Option.some.injEq, Prod.mk.injEq] at H
        obtain ⟨rfl, rfl⟩ := H
        have p329 : 0 ≤ (x7_1 : Int) := of_decide_eq_true (by (with_reducible assumption))
        have q329 : x7_1 < (l0.length : Int) := of_decide_eq_true (by (with_reducible assumption))
        obtain ⟨ad329, e329, hx329_0⟩ := Kd.at_string HR0.out x7_1 p329 q329
        cases e329
        replace p329 := eq_true p329
        replace q329 := eq_true q329
        go_wp2
        go_ret2
        exact ⟨by rfl, by repeat (first | exact Drawn0.refl _ | apply Drawn0.step)⟩
       ·
        rw [if_neg c12] at H
        have c12b0 : ((rdOf eB_ l0 x7_1).toList == a1.toList) = false := beq_eq_false_iff_ne.mpr c12
        have c12b1 : ((rdOf eB_ l0 x7_1).toList != a1.toList) = true := bne_iff_ne.mpr c12
        replace H := oB_.mp H
        obtain ⟨t331, A130, H⟩ := H
        try dsimp only at H
        have A13 := aM_ A130
        clear A130
        by_cases c14 : t331 = true
        ·
         subst c14
         rw [if_pos rfl] at H
         replace H := oB_.mp H
         obtain ⟨t332, A150, H⟩ := H
         try dsimp only at H
         have A15 := aM_ A150
         clear A150
         simp only [Option.some.injEq, Prod.mk.injEq] at H
         obtain ⟨rfl, rfl⟩ := H
         have p329 : 0 ≤ (x7_1 : Int) := of_decide_eq_true (by (with_reducible assumption))
         have q329 : x7_1 < (l0.length : Int) := of_decide_eq_true (by (with_reducible assumption))
         obtain ⟨ad329, e329, hx329_0⟩ := Kd.at_string HR0.out x7_1 p329 q329
         cases e329
         replace p329 := eq_true p329
         replace q329 := eq_true q329
         have p330 : 0 ≤ (x7_1 : Int) := of_decide_eq_true (by (with_reducible assumption))
         have q330 : x7_1 < (l0.length : Int) := of_decide_eq_true (by (with_reducible assumption))
         obtain ⟨ad330, e330, hx330_0⟩ := Kd.at_string HR0.out x7_1 p330 q330
         obtain rfl : ad329 = ad330 := (by injection e330)
         replace p330 := eq_true p330
         replace q330 := eq_true q330
         go_wp2_with (first | (go_at_call 114; (with_reducible refine (slices_isNaN_string.calls (rdOf eB_ l0 x7_1) true _ A13.out).mono ?_); rintro e w' ⟨rfl, ⟨nd, rfl⟩⟩) | (go_at_call 114; (with_reducible refine (slices_isNaN_string.calls a1 t332 _ A15.out).mono ?_); rintro e w' ⟨rfl, ⟨nd, rfl⟩⟩))
         go_ret2
         exact ⟨by rfl, by repeat (first | exact Drawn0.refl _ | apply Drawn0.step)⟩
        ·
         replace c14 := Bool.eq_false_iff.mpr c14
         subst c14
         have H1 : (some (x7_1, false)) = some (r1, r2) := by rw [if_neg (show ¬ (false = true) by decide)] at H; exact H
         clear H
         have H := H1
         clear H1
         simp only [Option.some.injEq, Prod.mk.injEq] at H
         obtain ⟨rfl, rfl⟩ := H
         have p329 : 0 ≤ (x7_1 : Int) := of_decide_eq_true (by (with_reducible assumption))
         have q329 : x7_1 < (l0.length : Int) := of_decide_eq_true (by (with_reducible assumption))
         obtain ⟨ad329, e329, hx329_0⟩ := Kd.at_string HR0.out x7_1 p329 q329
         cases e329
         replace p329 := eq_true p329
         replace q329 := eq_true q329
         have p330 : 0 ≤ (x7_1 : Int) := of_decide_eq_true (by (with_reducible assumption))
         have q330 : x7_1 < (l0.length : Int) := of_decide_eq_true (by (with_reducible assumption))
         obtain ⟨ad330, e330, hx330_0⟩ := Kd.at_string HR0.out x7_1 p330 q330
         obtain rfl : ad329 = ad330 := (by injection e330)
         replace p330 := eq_true p330
         replace q330 := eq_true q330
         go_wp2_with (first | (go_at_call 114; (with_reducible refine (slices_isNaN_string.calls (rdOf eB_ l0 x7_1) false _ A13.out).mono ?_); rintro e w' ⟨rfl, ⟨nd, rfl⟩⟩))
         go_ret2
         exact ⟨by rfl, by repeat (first | exact Drawn0.refl _ | apply Drawn0.step)⟩
      ·
       rw [if_neg c11] at H
       exact absurd H (by simp)
     ·
      rw [if_neg c10] at H
      exact absurd H (by simp)
    ·
     rw [if_neg c9] at H
     have c9b0 := decide_eq_false c9
     clear c9
     simp only [Option.some.injEq, Prod.mk.injEq] at H
     obtain ⟨rfl, rfl⟩ := H
     go_wp2
     go_ret2
     exact ⟨by rfl, by repeat (first | exact Drawn0.refl _ | apply Drawn0.step)⟩
mutual
def impl_trieOf.l0 : Nat → List ByteArray → List ByteArray → List ByteArray → Int → Int → Option ((List (S76)))
 | 0, _, _, _, _, _ => none
 | k + 1, x0, x3, x15, x16, x17 => if x17 < x16 then (if 0 ≤ x17 then (if x17 < (x15.length : Int) then (impl_trieOf.l1 k x0 x3 (rdOf eB_ x15 x17) x15 x16 x17 ((rdOf eB_ x15 x17).size : Int) 0) else (none)) else (none)) else ((impl_set.f x3).bind fun t341 => (if SM.okL t341 = true then (impl_trieOf.l2 k x0 t341 (t341.length : Int) 0 ([] : List (S76))) else none))
def impl_trieOf.l1 : Nat → List ByteArray → List ByteArray → ByteArray → List ByteArray → Int → Int → Int → Int → Option ((List (S76)))
 | 0, _, _, _, _, _, _, _, _ => none
 | k + 1, x0, x3, x5, x15, x16, x17, x22, x23 => if x23 < x22 then (if 0 ≤ (wrap64 (x23 + 1)) then (if (wrap64 (x23 + 1)) ≤ (x5.size : Int) then (if x3.length < 8796093022208 then (impl_trieOf.l1 k x0 (x3 ++ [x5.extract 0 ((wrap64 (x23 + 1)) : Int).toNat]) x5 x15 x16 x17 x22 (wrap64 (x23 + 1))) else (none)) else (none)) else (none)) else (impl_trieOf.l0 k x0 x3 x15 x16 (wrap64 (x17 + 1)))
def impl_trieOf.l2 : Nat → List ByteArray → List ByteArray → Int → Int → List (S76) → Option ((List (S76)))
 | 0, _, _, _, _, _ => none
 | k + 1, x0, x39, x40, x41, x345000 => if x41 < x40 then (if 0 ≤ x41 then (if x41 < (x39.length : Int) then ((slices_BinarySearch_string_string.f k x0 (rdOf eB_ x39 x41)).bind fun bt346 => (if (rdOf eB_ x39 x41).toList = ([] : List UInt8) then (if x345000.length < 5864062014805 then (impl_trieOf.l2 k x0 x39 x40 (wrap64 (x41 + 1)) (x345000 ++ [(⟨(-1), (-1), bt346.2⟩ : S76)])) else (none)) else (if 0 ≤ (wrap64 (((rdOf eB_ x39 x41).size : Int) - 1)) then (if (wrap64 (((rdOf eB_ x39 x41).size : Int) - 1)) < ((rdOf eB_ x39 x41).size : Int) then (if (wrap64 (((rdOf eB_ x39 x41).size : Int) - 1)) ≤ ((rdOf eB_ x39 x41).size : Int) then (if x345000.length < 5864062014805 then (impl_trieOf.l2 k x0 x39 x40 (wrap64 (x41 + 1)) (x345000 ++ [(⟨((bt (rdOf eB_ x39 x41) (wrap64 (((rdOf eB_ x39 x41).size : Int) - 1))) - 97) % 256, SM.at_ (List.take ((x41 : Int).toNat + 1) x39) ((rdOf eB_ x39 x41).extract 0 ((wrap64 (((rdOf eB_ x39 x41).size : Int) - 1)) : Int).toNat), bt346.2⟩ : S76)])) else (none)) else (none)) else (none)) else (none)))) else (none)) else (none)) else (some x345000)
end
def impl_trieOf.f (k : Nat) (l0 : List ByteArray) : Option ((List (S76))) := impl_trieOf.l0 k l0 (([(⟨#[]⟩ : ByteArray)] : List ByteArray)) l0 (l0.length : Int) 0
theorem impl_trieOf.mono_l : ∀ k, (∀ y0 y1 y2 y3 y4, LeO (impl_trieOf.l0 k y0 y1 y2 y3 y4) (impl_trieOf.l0 (k + 1) y0 y1 y2 y3 y4)) ∧ (∀ y0 y1 y2 y3 y4 y5 y6 y7, LeO (impl_trieOf.l1 k y0 y1 y2 y3 y4 y5 y6 y7) (impl_trieOf.l1 (k + 1) y0 y1 y2 y3 y4 y5 y6 y7)) ∧ (∀ y0 y1 y2 y3 y4, LeO (impl_trieOf.l2 k y0 y1 y2 y3 y4) (impl_trieOf.l2 (k + 1) y0 y1 y2 y3 y4))
 | 0 => ⟨fun _ _ _ _ _ r h => by simp [impl_trieOf.l0] at h, fun _ _ _ _ _ _ _ _ r h => by simp [impl_trieOf.l1] at h, fun _ _ _ _ _ r h => by simp [impl_trieOf.l2] at h⟩
 | k + 1 => by
  obtain ⟨ih0, ih1, ih2⟩ := impl_trieOf.mono_l k
  refine ⟨?_, ?_, ?_⟩
  ·
   intro y0 y1 y2 y3 y4
   unfold impl_trieOf.l0
   repeat' first
   | (with_reducible exact ih0 _ _ _ _ _)
   | (with_reducible exact ih1 _ _ _ _ _ _ _ _)
   | (with_reducible exact ih2 _ _ _ _ _)
   | (with_reducible exact slices_BinarySearch_string_string.mono _ _ _)
   | (with_reducible exact l3_ _)
   | (with_reducible exact l0_ _)
   | (with_reducible refine l2_ ?_ ?_)
   | (with_reducible refine l1_ ?_ (fun _ => ?_))
   | exact ih0 _ _ _ _ _
   | exact ih1 _ _ _ _ _ _ _ _
   | exact ih2 _ _ _ _ _
   | exact slices_BinarySearch_string_string.mono _ _ _
   | exact l0_ _
   | refine l2_ ?_ ?_
   | refine l1_ ?_ (fun _ => ?_)
  ·
   intro y0 y1 y2 y3 y4 y5 y6 y7
   unfold impl_trieOf.l1
   repeat' first
   | (with_reducible exact ih0 _ _ _ _ _)
   | (with_reducible exact ih1 _ _ _ _ _ _ _ _)
   | (with_reducible exact ih2 _ _ _ _ _)
   | (with_reducible exact slices_BinarySearch_string_string.mono _ _ _)
   | (with_reducible exact l3_ _)
   | (with_reducible exact l0_ _)
   | (with_reducible refine l2_ ?_ ?_)
   | (with_reducible refine l1_ ?_ (fun _ => ?_))
   | exact ih0 _ _ _ _ _
   | exact ih1 _ _ _ _ _ _ _ _
   | exact ih2 _ _ _ _ _
   | exact slices_BinarySearch_string_string.mono _ _ _
   | exact l0_ _
   | refine l2_ ?_ ?_
   | refine l1_ ?_ (fun _ => ?_)
  ·
   intro y0 y1 y2 y3 y4
   unfold impl_trieOf.l2
   repeat' first
   | (with_reducible exact ih0 _ _ _ _ _)
   | (with_reducible exact ih1 _ _ _ _ _ _ _ _)
   | (with_reducible exact ih2 _ _ _ _ _)
   | (with_reducible exact slices_BinarySearch_string_string.mono _ _ _)
   | (with_reducible exact l3_ _)
   | (with_reducible exact l0_ _)
   | (with_reducible refine l2_ ?_ ?_)
   | (with_reducible refine l1_ ?_ (fun _ => ?_))
   | exact ih0 _ _ _ _ _
   | exact ih1 _ _ _ _ _ _ _ _
   | exact ih2 _ _ _ _ _
   | exact slices_BinarySearch_string_string.mono _ _ _
   | exact l0_ _
   | refine l2_ ?_ ?_
   | refine l1_ ?_ (fun _ => ?_)
theorem impl_trieOf.mono : ∀ a0 k, LeO (impl_trieOf.f k a0) (impl_trieOf.f (k + 1) a0) := by
 intro a0 k
 obtain ⟨ih0, ih1, ih2⟩ := impl_trieOf.mono_l k
 unfold impl_trieOf.f
 repeat' first
   | (with_reducible exact ih0 _ _ _ _ _)
   | (with_reducible exact ih1 _ _ _ _ _ _ _ _)
   | (with_reducible exact ih2 _ _ _ _ _)
   | (with_reducible exact slices_BinarySearch_string_string.mono _ _ _)
   | (with_reducible exact l3_ _)
   | (with_reducible exact l0_ _)
   | (with_reducible refine l2_ ?_ ?_)
   | (with_reducible refine l1_ ?_ (fun _ => ?_))
   | exact ih0 _ _ _ _ _
   | exact ih1 _ _ _ _ _ _ _ _
   | exact ih2 _ _ _ _ _
   | exact slices_BinarySearch_string_string.mono _ _ _
   | exact l0_ _
   | refine l2_ ?_ ?_
   | refine l1_ ?_ (fun _ => ?_)
def impl_trieOf.T20 : Bool × List (List Nat × List Nat) := (true, [([], []), ([], []), ([1], [1]), ([2], [2]), ([0, 3], [0, 3]), ([4], [4]), ([5], [5]), ([], []), ([], []), ([], []), ([9], [9]), ([10], [10]), ([8, 11], [8, 11]), ([7, 12], [7, 12]), ([0, 1, 2, 3, 4, 5, 6], []), ([14, 6, 0, 1, 2, 3, 4, 5, 6], [6, 14]), ([0, 1, 2, 3, 4, 5, 6, 7, 8, 9, 10, 11, 12, 13, 14, 15], []), ([16, 13, 15, 0, 1, 2, 3, 4, 5, 6, 7, 8, 9, 10, 11, 12, 13, 14, 15], [13, 16])])
def impl_trieOf.B20 : List Nat := [0, 0, 2, 6, 15, 31, 63, 0, 0, 0, 512, 1536, 3840, 8064, 127, 16511, 65535, 131071]
theorem impl_trieOf.tab20 : rtab .any (opsOf Tryz.f79 20) = impl_trieOf.T20 := by kernel_rfl
theorem impl_trieOf.bits20 : waitsOk impl_trieOf.T20.2 impl_trieOf.B20 = true := by kernel_rfl
set_option maxHeartbeats 60000000 in
theorem impl_trieOf.calls (k : Nat) (A0 : Option Addr) (c0 : Nat) (l0 : List ByteArray) (r : List (S76)) (w : World) (hr0 : Kd.C Kd.string w A0 l0.length l0) (hc0 : l0.length ≤ c0) (h : impl_trieOf.f k l0 = some r) :
  Calls Tryz.prog 79 #[.slice A0 l0.length c0] w fun e w' => ∃ v0_ : Value, e = .returned (.agg #[v0_]) ∧ Kd.R k76 76 w' w.heap.size (fun _ => True) v0_ r ∧ Below w.heap.size w w' := by
 have hu36 := Tryz.underlying36
 have hu76 := Tryz.underlying76
 have HR0 := aM_ hr0
 have HC0 := aM_ hc0
 clear hr0 hc0
 have HB := aM_ (Below.refl w.heap.size w)
 have H : (impl_trieOf.l0 k l0 (([(⟨#[]⟩ : ByteArray)] : List ByteArray)) l0 (l0.length : Int) 0) = some r := h
 clear h
 obtain ⟨y334, hy334⟩ : ∃ y_ : List ByteArray, y_ = (([(⟨#[]⟩ : ByteArray)] : List ByteArray)) := ⟨_, rfl⟩
 replace H : (impl_trieOf.l0 k l0 y334 l0 (l0.length : Int) 0) = some r := by first | (rw [hy334]; with_reducible exact H) | (have H2_ := (Option.bind_some _ _).symm.trans H; rw [hy334]; with_reducible exact H2_) | (have H2_ := (Option.bind_some _ _).symm.trans H; with_reducible exact H2_) | with_reducible exact H | (rw [hy334]; exact H) | exact H
 have Ny334 := aM_ hy334
 clear hy334
 have H' := aM_ H
 clear H
 go_enter Tryz.func79, Tryz.ntmps79
 go_wp2_with (first | ((with_reducible refine gD_ (N := 2) rfl ?_); refine bE_ ?hg (N := 2) ?hd (cs := #[.slice none 0 0]) (t := 36) ?hr ?_; (case hd => rfl); (case hg => rfl); (case hr => (go_simp; done)); intro gb333 hg w2 hbox hb; have BK333 := aM_ (hbox); have GW333 := aM_ ((by rw [hg]; exact (bZ_ HB.out) : w.heap.size ≤ gb333)); have GE333 := GW333; replace HB := aM_ (bT_ HB.out hb); clear hb hbox hg) | ((with_reducible refine gD_ (N := 14) rfl ?_); refine Kd.R_lit Kd.string _ 9 ?hg (N := 14) ?hd (xs := ([(⟨#[]⟩ : ByteArray)] : List ByteArray)) (inner := [.string (⟨#[]⟩ : ByteArray)]) (ok := fun _ => True) (okp := fun _ => True) ?hr ?hp (fun _ hk => hk) trivial (Below.refl _ _) (Nat.le_refl _) (by simp) ?_; (case hd => rfl); (case hg => rfl); (case hr => (go_simp; done)); (case hp => exact (Reps.one (show Kd.M Kd.string _ _ _ (⟨#[]⟩ : ByteArray) [.string (⟨#[]⟩ : ByteArray)] from rfl) (Reps.none _ _))); intro v335 w3 ho4 hb hg_ hnew_; clear hg_ hnew_; (rw [← Ny334.out] at ho4); have HO336 := aM_ (k5_ ho4 (bZ_ HB.out)); replace BK333 := aM_ (bB_ BK333.out hb); replace HB := aM_ (bT_ HB.out hb); clear hb ho4))
 go_loopg [3, 17] k (fun kq v3 v17 w' => ∃ (x3_1 : List ByteArray) (x17_1 : Int), v17 = .int .i64 x17_1 ∧ Aside0 (impl_trieOf.l0 kq l0 x3_1 l0 (l0.length : Int) x17_1 = some r) ∧ Aside0 (kq ≤ k) ∧ Aside0 (Kd.R Kd.string 9 w' w.heap.size (fun _ => True) v3 x3_1) ∧ Aside0 (w'.heap[gb333]? = some (.cells #[(.slice none 0 0)] 36 (0, 0))) ∧ Aside0 (Below w.heap.size w w'))
 case atStart => exact ⟨(y334), (0), (by rfl), H', ⟨Nat.le_refl _⟩, ⟨HO336.out⟩, ⟨BK333.out⟩, ⟨HB.out⟩⟩
 case round =>
  clear H'
  try clear p2
  obtain ⟨x3_1, x17_1, rfl, HA, HK1, HO_3, BK333, HB⟩ := hrel
  cases gk with
  | zero => exact absurd HA.out (by simp [impl_trieOf.l0])
  | succ k1 =>
   have H := HA.out
   clear HA
   simp only [impl_trieOf.l0] at H
   by_cases c5 : x17_1 < (l0.length : Int)
   ·
    rw [if_pos c5] at H
    have c5b0 := decide_eq_true c5
    clear c5
    by_cases c6 : 0 ≤ x17_1
    ·
     rw [if_pos c6] at H
     have c6b0 := decide_eq_true c6
     clear c6
     by_cases c7 : x17_1 < (l0.length : Int)
     ·
      rw [if_pos c7] at H
      have c7b0 := decide_eq_true c7
      clear c7
      have H' := aM_ H
      clear H
      have p337 : 0 ≤ (x17_1 : Int) := of_decide_eq_true (by (with_reducible assumption))
      have q337 : x17_1 < (l0.length : Int) := of_decide_eq_true (by (with_reducible assumption))
      obtain ⟨ad337, e337, hx337_0⟩ := Kd.at_string HR0.out x17_1 p337 q337
      cases e337
      replace hx337_0 := (HB.out.cell (wB_ w _ hx337_0)).trans hx337_0
      replace p337 := eq_true p337
      replace q337 := eq_true q337
      go_wp2
      go_loopg [3, 23] k1 (fun kq v3 v23 w' => ∃ (x3_2 : List ByteArray) (x23_2 : Int), v23 = .int .i64 x23_2 ∧ Aside0 (impl_trieOf.l1 kq l0 x3_2 (rdOf eB_ l0 x17_1) l0 (l0.length : Int) x17_1 ((rdOf eB_ l0 x17_1).size : Int) x23_2 = some r) ∧ Aside0 (kq ≤ k1) ∧ Aside0 (Kd.R Kd.string 9 w' w.heap.size (fun _ => True) v3 x3_2) ∧ Aside0 (w'.heap[gb333]? = some (.cells #[(.slice none 0 0)] 36 (0, 0))) ∧ Aside0 (Below w.heap.size w w'))
      case atStart => exact ⟨(x3_1), (0), (by rfl), H', ⟨Nat.le_refl _⟩, ⟨HO_3.out⟩, ⟨BK333.out⟩, ⟨HB.out⟩⟩
      case round =>
       clear H'
       try clear p2
       try clear p3
       try clear q3
       try clear hx3
       try clear c5b0
       try clear c6b0
       try clear c7b0
       try clear hx337_0
       try clear p2
       try clear p337
       try clear q337
       obtain ⟨x3_2, x23_2, rfl, HA, HK2, HO_3, BK333, HB⟩ := hrel
       cases gk with
       | zero => exact absurd HA.out (by simp [impl_trieOf.l1])
       | succ k2 =>
        have H := HA.out
        clear HA
        simp only [impl_trieOf.l1] at H
        by_cases c8 : x23_2 < ((rdOf eB_ l0 x17_1).size : Int)
        ·
         rw [if_pos c8] at H
         have c8b0 := decide_eq_true c8
         clear c8
         obtain ⟨ji9, hji9⟩ : ∃ j_ : Int, (wrap64 (x23_2 + 1)) = j_ := ⟨_, rfl⟩
         replace H : (if 0 ≤ (ji9) then (if (ji9) ≤ ((rdOf eB_ l0 x17_1).size : Int) then (if x3_2.length < 8796093022208 then (impl_trieOf.l1 k2 l0 (x3_2 ++ [(rdOf eB_ l0 x17_1).extract 0 ((ji9) : Int).toNat]) (rdOf eB_ l0 x17_1) l0 (l0.length : Int) x17_1 ((rdOf eB_ l0 x17_1).size : Int) ji9) else (none)) else (none)) else (none)) = some r := by first | (rw [hji9] at H; exact H) | (simp only [hji9] at H ⊢; exact H)
         have hji9w : (IntKind.i64.wrap (x23_2 + 1)) = ji9 := (i6_ _).trans hji9
         by_cases c10 : 0 ≤ (ji9)
         ·
          rw [if_pos c10] at H
          have c10b0 := eq_true c10
          have c10b1 := decide_eq_true c10
          clear c10
          by_cases c11 : (ji9) ≤ ((rdOf eB_ l0 x17_1).size : Int)
          ·
           rw [if_pos c11] at H
           have c11b0 := eq_true c11
           have c11b1 := decide_eq_true c11
           clear c11
           by_cases c12 : x3_2.length < 8796093022208
           ·
            rw [if_pos c12] at H
            have LMc12 := aM_ c12
            clear c12
            obtain ⟨y338, hy338⟩ : ∃ y_ : List ByteArray, y_ = (x3_2 ++ [(rdOf eB_ l0 x17_1).extract 0 ((ji9) : Int).toNat]) := ⟨_, rfl⟩
            replace H : (impl_trieOf.l1 k2 l0 y338 (rdOf eB_ l0 x17_1) l0 (l0.length : Int) x17_1 ((rdOf eB_ l0 x17_1).size : Int) ji9) = some r := by first | (rw [hy338]; with_reducible exact H) | (have H2_ := (Option.bind_some _ _).symm.trans H; rw [hy338]; with_reducible exact H2_) | (have H2_ := (Option.bind_some _ _).symm.trans H; with_reducible exact H2_) | with_reducible exact H | (rw [hy338]; exact H) | exact H
            have Ny338 := aM_ hy338
            clear hy338
            have H' := aM_ H
            clear H
            go_wp2_with (first | ((with_reducible refine gate_builtin (b := .append) (xs := #[.tmp 26, .tmp 31]) rfl ?_); at_builtin; refine Kd.R_append Kd.string (w0 := w) w.heap.size rfl (.tmp 26) (.tmp 31) 49 9 (.string ⟨#[]⟩) 16 rfl Tryz.underlying49 info9 rfl (by decide) (by omega) u3 x3_2 ((rdOf eB_ l0 x17_1).extract 0 ((ji9) : Int).toNat) [.string ((rdOf eB_ l0 x17_1).extract 0 ((ji9) : Int).toNat)] (fun _ => True) (fun _ => False) rfl rfl ?aP (fun _ hk => hk.elim) ?aF ?aO ?aB ?aS ?aL ?_; (case aP => exact rfl); (case aB => exact HB.out); (case aF => exact (fun _ _ => trivial)); (case aO => exact HO_3.out); (case aS => exact (bZ_ HB.out)); (case aL => have := LMc12.out; omega); intro v339 w13 ho hb hg hat; rw [← Ny338.out] at ho; have n0_ := aM_ (blk_grown (g := gb333) (o := .cells #[.slice none 0 0] 36 (0, 0)) BK333.out hg (k6_ HO_3.out BK333.out (by decide))); have n1_ := aM_ (hb); have n2_ := aM_ (ho); clear BK333; clear HB; clear HO_3; have BK333 := n0_; have HB := n1_; have HO340 := n2_; clear n0_ n1_ n2_; clear ho hb hg hat))
            go_roundg k2
            case measure => have := HK1.out; have := HK2.out; omega
            case rel => exact ⟨(y338), (ji9), (by rfl), H', ⟨by have := HK1.out; have := HK2.out; omega⟩, ⟨HO340.out⟩, ⟨BK333.out⟩, ⟨HB.out⟩⟩
           ·
            rw [if_neg c12] at H
            exact absurd H (by simp)
          ·
           rw [if_neg c11] at H
           exact absurd H (by simp)
         ·
          rw [if_neg c10] at H
          exact absurd H (by simp)
        ·
         rw [if_neg c8] at H
         have c8b0 := decide_eq_false c8
         clear c8
         have H' := aM_ H
         clear H
         go_wp2
         go_roundg k2
         case measure => have := HK1.out; have := HK2.out; omega
         case rel => exact ⟨(x3_2), (wrap64 (x17_1 + 1)), (by rfl), H', ⟨by have := HK1.out; have := HK2.out; omega⟩, ⟨HO_3.out⟩, ⟨BK333.out⟩, ⟨HB.out⟩⟩
     ·
      rw [if_neg c7] at H
      exact absurd H (by simp)
    ·
     rw [if_neg c6] at H
     exact absurd H (by simp)
   ·
    rw [if_neg c5] at H
    have c5b0 := decide_eq_false c5
    clear c5
    replace H := oB_.mp H
    obtain ⟨t341, A140, H⟩ := H
    try dsimp only at H
    have hsz_ : SM.okL t341 = true := by
     by_cases h_ : SM.okL t341 = true
     ·
      exact h_
     ·
      rw [if_neg h_] at H; cases H
    rw [if_pos hsz_] at H
    have HSZ := aM_ hsz_
    clear hsz_
    have A14 := aM_ A140
    clear A140
    have H' := aM_ H
    clear H
    obtain ⟨Ao15, co15, eo15⟩ := kS_ HO_3.out
    subst eo15
    go_wp2_with (first | ((with_reducible refine gC_ (f := 82) rfl ?_); refine goesL_ (some 36) rfl rfl Tryz.func82 (by kernel_rfl) rfl #[.slice Ao15 x3_1.length co15] rfl (by (try simp only [sD_, sE_, sF_]); rfl) ?_; (with_reducible refine (impl_set.calls _ _ x3_1 t341 _ ?side1 ?side2 A14.out).mono ?_); (case side1 => repeat (first | exact (kR_ HO_3.out).2.2 | (with_reducible refine Kd.C_alloc ?_ _) | (with_reducible refine Kd.C_drewN ?_ _) | (with_reducible refine Kd.C_drew ?_))); (case side2 => exact (kR_ HO_3.out).2.1); rintro e w16 ⟨v342, rfl, ho0, hb⟩; refine ⟨_, rfl, ?_⟩; have HO343 := aM_ (k5_ (Kd.R_new' ho0 (Kd.R_lt HO_3.out)) (bZ_ HB.out)); replace HO_3 := aM_ (Kd.R_elder' HO_3.out (Kd.R_base ho0) hb); replace BK333 := aM_ (bB_ BK333.out hb); replace HB := aM_ (bT_ HB.out hb); (try clear hb); (try clear ho0)) | ((with_reducible refine gD_ (N := 38) rfl ?_); refine SM.made ?hg (N := 38) ?hd ?hr ?_; (case hd => rfl); (case hg => rfl); (case hr => (go_simp; rfl)); intro gbM hg wMade hbox hb; replace HO_3 := aM_ (kB_ HO_3.out hb); replace HO343 := aM_ (kB_ HO343.out hb); have BKM := aM_ (hbox); have GWM := aM_ ((by rw [hg]; exact (bZ_ HB.out) : w.heap.size ≤ gbM)); have GEM := aM_ ((by rw [hg]; exact (bZ_ HB.out) : w.heap.size ≤ gbM)); replace HB := aM_ (bT_ HB.out hb); have NB333_M := aM_ ((by rw [hg]; exact Nat.ne_of_lt (bL_ BK333.out) : gb333 ≠ gbM)); have NBM_333 := aM_ NB333_M.out.symm; replace BK333 := aM_ (bB_ BK333.out hb); clear hb hbox hg) | ((with_reducible refine gD_ (N := 7) rfl ?_); refine bE_ ?hg (N := 7) ?hd (cs := #[.slice none 0 0]) (t := 36) ?hr ?_; (case hd => rfl); (case hg => rfl); (case hr => (go_simp; done)); intro gb344 hg w17 hbox hb; have n0_ := aM_ (kB_ HO_3.out hb); have n1_ := aM_ (kB_ HO343.out hb); have n2_ := aM_ (bB_ BK333.out hb); have n29_ := aM_ (SM.Is.below (l := []) (by (with_reducible repeat (first | refine SM.Is.drewN ?_ _ | refine SM.Is.drew ?_ | refine SM.Is.alloc ?_ _)); exact BKM.out) hb); have n3_ := aM_ (bT_ HB.out hb); have n4_ := aM_ (hbox); have n5_ := aM_ ((by rw [hg]; exact (bZ_ HB.out) : w.heap.size ≤ gb344)); have n6_ := aM_ ((by rw [hg]; exact (bZ_ HB.out) : w.heap.size ≤ gb344)); have n7_ := aM_ ((by rw [hg]; exact Nat.ne_of_lt (bL_ BK333.out) : gb333 ≠ gb344)); have n79_ := aM_ ((by rw [hg]; exact Nat.ne_of_lt (SM.Is.lt (l := []) (by (with_reducible repeat (first | refine SM.Is.drewN ?_ _ | refine SM.Is.drew ?_ | refine SM.Is.alloc ?_ _)); exact BKM.out)) : gbM ≠ gb344)); have n8_ := aM_ ((by rw [hg]; exact Nat.ne_of_gt (bL_ BK333.out) : gb344 ≠ gb333)); have n89_ := aM_ ((by rw [hg]; exact Nat.ne_of_gt (SM.Is.lt (l := []) (by (with_reducible repeat (first | refine SM.Is.drewN ?_ _ | refine SM.Is.drew ?_ | refine SM.Is.alloc ?_ _)); exact BKM.out)) : gb344 ≠ gbM)); clear HO_3; clear HO343; clear BKM; clear BK333; clear HB; have HO_3 := n0_; have HO343 := n1_; have BK333 := n2_; have BKM := n29_; have HB := n3_; have BK344 := n4_; have GW344 := n5_; have GE344 := n6_; have NB333_344 := n7_; have NBM_344 := n79_; have NB344_333 := n8_; have NB344_M := n89_; clear n0_ n1_ n2_ n3_ n4_ n5_ n6_ n7_ n8_ n29_ n79_ n89_; clear hb hbox hg; have hnb18 := NB344_333.out; have hnc18 := NB333_344.out; have hcz19_0 : w17.cell? ⟨gb344, 0, none⟩ = some (.slice none 0 0) := (bC_ BK344.out 0).trans rfl; have hfz19_0 := bF_ BK344.out 0; obtain ⟨Ao20, co20, eo20⟩ := kS_ HO343.out; subst eo20))
    go_loopg [41] k1 (fun kq v41 w' => ∃ (x41_2 : Int) (x345000_2 : List (S76)) (u345000 : Value), v41 = .int .i64 x41_2 ∧ Aside0 (impl_trieOf.l2 kq l0 t341 (t341.length : Int) x41_2 x345000_2 = some r) ∧ Aside0 (kq ≤ k1) ∧ Aside0 (Kd.R Kd.string 9 w' w.heap.size (fun _ => True) (.slice Ao20 t341.length co20) t341) ∧ Aside0 (Kd.R k76 76 w' w.heap.size (fun _ => True) u345000 x345000_2) ∧ Aside0 (w'.heap[gb333]? = some (.cells #[(.slice none 0 0)] 36 (0, 0))) ∧ Aside0 (w'.heap[gb344]? = some (.cells #[u345000] 36 (0, 0))) ∧ Aside0 (Below w.heap.size w w') ∧ Aside0 (SM.Is w' gbM (List.take ((x41_2 : Int).toNat) t341)))
    case atStart => exact ⟨(0), (([] : List (S76))), (.slice none 0 0), (by rfl), H', ⟨Nat.le_refl _⟩, ⟨by exact kM_ (kF_ (p := ⟨gb344, 0, none⟩) (kT_ HO343.out BK344.out (by decide)) (fun _ hk => hk.2) (.slice none 0 0)) (fun _ hk => trivial)⟩, ⟨by exact Kd.R_nil _ _ _ _ _⟩, ⟨by refine bR_ ?_ NB333_344.out _; exact BK333.out⟩, ⟨by refine bP_ (cs := #[.slice none 0 0]) ?_ 0 _ rfl; exact BK344.out⟩, ⟨by repeat (first | (with_reducible first | exact HB.out | apply bA_ | apply bN_ | apply bD_ | refine bS_ ?_ GE333.out | refine bS_ ?_ GE344.out) | exact HB.out)⟩, ⟨(by (with_reducible repeat (first | refine SM.Is.drewN ?_ _ | refine SM.Is.drew ?_ | refine SM.Is.alloc ?_ _)); refine SM.Is.far ?_ NBM_344.out _; (with_reducible repeat (first | refine SM.Is.drewN ?_ _ | refine SM.Is.drew ?_ | refine SM.Is.alloc ?_ _)); exact BKM.out : SM.Is _ gbM [])⟩⟩
    case round =>
     clear H'
     try clear p2
     try clear p3
     try clear q3
     try clear hx3
     try clear c5b0
     try clear c6b0
     try clear p6
     try clear c7b0
     try clear c8b0
     try clear c10b0
     try clear c10b1
     try clear c11b0
     try clear c11b1
     try clear hcz19_0
     try clear hfz19_0
     try clear hx337_0
     try clear p2
     try clear p3
     try clear p337
     try clear q3
     try clear q337
     obtain ⟨x41_2, x345000_2, u345000, rfl, HA, HK2, HO_39, HO_345000, BK333, BK344, HB, BKM0⟩ := hrel
     obtain ⟨lm, hlm⟩ : ∃ l_ : List ByteArray, l_ = List.take ((x41_2 : Int).toNat) t341 := ⟨_, rfl⟩
     have BKM : Aside0 (SM.Is wr gbM lm) := ⟨by rw [hlm]; exact BKM0.out⟩
     clear BKM0
     have HLM := aM_ hlm
     clear hlm
     cases gk with
     | zero => exact absurd HA.out (by simp [impl_trieOf.l2])
     | succ k2 =>
      have H := HA.out
      clear HA
      simp only [impl_trieOf.l2] at H
      by_cases c21 : x41_2 < (t341.length : Int)
      ·
       rw [if_pos c21] at H
       have c21b0 := decide_eq_true c21
       clear c21
       by_cases c22 : 0 ≤ x41_2
       ·
        rw [if_pos c22] at H
        have c22b0 := decide_eq_true c22
        clear c22
        by_cases c23 : x41_2 < (t341.length : Int)
        ·
         rw [if_pos c23] at H
         have c23b0 := decide_eq_true c23
         clear c23
         replace H := oB_.mp H
         obtain ⟨⟨t346, t347⟩, A240, H⟩ := H
         try dsimp only at H
         have A24 := aM_ A240
         clear A240
         by_cases c25 : (rdOf eB_ t341 x41_2).toList = ([] : List UInt8)
         ·
          rw [if_pos c25] at H
          have c25b0 : ((rdOf eB_ t341 x41_2).toList == ([] : List UInt8)) = true := beq_iff_eq.mpr c25
          have c25b1 : ((rdOf eB_ t341 x41_2).toList != ([] : List UInt8)) = false := bne_eq_false_iff_eq.mpr c25
          clear c25
          by_cases c26 : x345000_2.length < 5864062014805
          ·
           rw [if_pos c26] at H
           have LMc26 := aM_ c26
           clear c26
           obtain ⟨y349, hy349⟩ : ∃ y_ : List (S76), y_ = (x345000_2 ++ [(⟨(-1), (-1), t347⟩ : S76)]) := ⟨_, rfl⟩
           replace H : (impl_trieOf.l2 k2 l0 t341 (t341.length : Int) (wrap64 (x41_2 + 1)) y349) = some r := by first | (rw [hy349]; with_reducible exact H) | (have H2_ := (Option.bind_some _ _).symm.trans H; rw [hy349]; with_reducible exact H2_) | (have H2_ := (Option.bind_some _ _).symm.trans H; with_reducible exact H2_) | with_reducible exact H | (rw [hy349]; exact H) | exact H
           have Ny349 := aM_ hy349
           clear hy349
           have H' := aM_ H
           clear H
           have p345 : 0 ≤ (x41_2 : Int) := of_decide_eq_true (by (with_reducible assumption))
           have q345 : x41_2 < (t341.length : Int) := of_decide_eq_true (by (with_reducible assumption))
           have HLL := aM_ (show (lm.length : Int) = x41_2 from by rw [HLM.out, List.length_take]; omega)
           have HLL2 := aM_ (show lm.length < t341.length from by rw [HLM.out, List.length_take]; omega)
           have HLP := aM_ (SM.okL.size HSZ.out x41_2 p345 q345)
           have HLN := aM_ (show lm ++ [rdOf eB_ t341 x41_2] = List.take ((x41_2 : Int).toNat + 1) t341 from by rw [HLM.out]; exact SM.take_rd t341 x41_2 p345 q345)
           obtain ⟨ad345, e345, hx345_0⟩ := Kd.at_string (kR_ HO_39.out).2.2 x41_2 p345 q345
           cases e345
           replace p345 := eq_true p345
           replace q345 := eq_true q345
           go_wp2_with (first | (at_mapUpdate; refine SM.put rfl (.tmp 46) (.tmp 47) (.tmp 48) 106 Tryz.underlying106 rfl gbM lm rfl (by (with_reducible repeat (first | refine SM.Is.drewN ?_ _ | refine SM.Is.drew ?_ | refine SM.Is.alloc ?_ _)); exact BKM.out) ?hn (rdOf eB_ t341 x41_2) ?hp rfl ?hv ?_; (case hn => have h1_ := SM.okL.len HSZ.out; have h2_ := HLL2.out; omega); (case hp => have h1_ := HLP.out; unfold maxLen; omega); (case hv => exact (congrArg (Value.int IntKind.i64) HLL.out).symm); intro w9m h1m hgm; obtain ⟨lm2, hlm2⟩ : ∃ l_ : List ByteArray, l_ = lm ++ [rdOf eB_ t341 x41_2] := ⟨_, rfl⟩; rw [← hlm2] at h1m; have HLM2 := aM_ hlm2; clear hlm2; have nr0_ := aM_ (SM.R_over HO_39.out (by (with_reducible repeat (first | refine SM.Is.drewN ?_ _ | refine SM.Is.drew ?_ | refine SM.Is.alloc ?_ _)); exact BKM.out) hgm); have nr1_ := aM_ (SM.R_over HO_345000.out (by (with_reducible repeat (first | refine SM.Is.drewN ?_ _ | refine SM.Is.drew ?_ | refine SM.Is.alloc ?_ _)); exact BKM.out) hgm); have nb_ := aM_ (blk_grown (g := gb333) (o := .cells #[.slice none 0 0] 36 (0, 0)) BK333.out hgm (fun e_ => NBM_333.out (Option.some.inj e_).symm)); have nt_ := aM_ (blk_grown (g := gb344) BK344.out hgm (fun e_ => NBM_344.out (Option.some.inj e_).symm)); have nh_ := aM_ (RowKit.Below.grown HB.out hgm (bZ_ HB.out) (fun j hj => by cases hj; exact GEM.out)); clear HO_39 HO_345000 BK333 BK344 HB BKM; have HO_39 := nr0_; clear nr0_; have HO_345000 := nr1_; clear nr1_; have BK333 := nb_; have BK344 := nt_; have HB := nh_; have BKM := aM_ h1m; clear nb_ nt_ nh_ h1m hgm) | ((with_reducible refine gC_ (f := 93) rfl ?_); refine goesL_ (some 52) rfl rfl Tryz.func93 (by kernel_rfl) rfl #[.slice A0 l0.length c0, .string (rdOf eB_ t341 x41_2)] rfl (by (try simp only [sD_, sE_, sF_]); rfl) ?_; (with_reducible refine (slices_BinarySearch_string_string.calls k2 _ _ l0 (rdOf eB_ t341 x41_2) t346 t347 _ ?side1 ?side2 A24.out).mono ?_); (case side1 => repeat (first | exact (k4_ HR0.out HB.out) | (with_reducible refine Kd.C_alloc ?_ _) | (with_reducible refine Kd.C_drewN ?_ _) | (with_reducible refine Kd.C_drew ?_))); (case side2 => exact HC0.out); rintro e w' ⟨rfl, ⟨nd, rfl⟩⟩; refine ⟨_, rfl, ?_⟩; (try (rw [drewN_self wr]; generalize hq_ : World.drewN wr _ = wr; have n0_ : Aside0 (Kd.R k76 76 wr w.heap.size (fun _ => True) u345000 x345000_2) := ⟨by rw [← hq_]; exact (by (with_reducible repeat (first | apply k1_ | apply k2_ | apply k3_)); exact HO_345000.out)⟩; have n1_ : Aside0 (Kd.R Kd.string 9 wr w.heap.size (fun _ => True) (.slice (some ad345) t341.length co20) t341) := ⟨by rw [← hq_]; exact (by (with_reducible repeat (first | apply k1_ | apply k2_ | apply k3_)); exact HO_39.out)⟩; have n2_ : Aside0 (wr.heap[gb333]? = some (.cells #[.slice none 0 0] 36 (0, 0))) := ⟨by rw [← hq_]; exact (by (with_reducible repeat (first | refine b2_ ?_ _ | refine b1_ ?_ | refine b3_ ?_ _)); exact BK333.out)⟩; have n29_ : Aside0 (SM.Is wr gbM lm2) := ⟨by rw [← hq_]; exact (by (with_reducible repeat (first | refine SM.Is.drewN ?_ _ | refine SM.Is.drew ?_ | refine SM.Is.alloc ?_ _)); exact BKM.out)⟩; have n3_ : Aside0 (wr.heap[gb344]? = some (.cells #[u345000] 36 (0, 0))) := ⟨by rw [← hq_]; exact (by (with_reducible repeat (first | refine b2_ ?_ _ | refine b1_ ?_ | refine b3_ ?_ _)); exact BK344.out)⟩; have n4_ : Aside0 (Below w.heap.size w wr) := ⟨by rw [← hq_]; exact (by repeat (first | (with_reducible first | exact HB.out | apply bA_ | apply bN_ | apply bD_ | refine bS_ ?_ GE333.out | refine bS_ ?_ GE344.out) | exact HB.out))⟩; clear HO_345000 HO_39 BKM BK333 BK344 HB hq_; have HO_345000 := n0_; have HO_39 := n1_; have BK333 := n2_; have BKM := n29_; have BK344 := n3_; have HB := n4_; clear n0_ n1_ n2_ n3_ n4_ n29_))) | ((with_reducible refine gD_ (N := 13) rfl ?_); refine bE_ ?hg (N := 13) ?hd (cs := #[.int .i64 0, .int .i64 0, .bool false]) (t := 76) ?hr ?_; (case hd => rfl); (case hg => rfl); (case hr => (go_simp; done)); intro gb348 hg w27 hbox hb; have n0_ := aM_ (kB_ (by (with_reducible repeat (first | apply k1_ | apply k2_ | apply k3_)); exact HO_39.out) hb); have n1_ := aM_ (kB_ (Kd.R_elderB (by (with_reducible repeat (first | apply k1_ | apply k2_ | apply k3_)); exact HO_345000.out) gb348 (Nat.le_of_eq hg.symm)) hb); have n2_ := aM_ (bB_ (g := gb333) (o := .cells #[.slice none 0 0] 36 (0, 0)) (by (with_reducible repeat (first | refine b2_ ?_ _ | refine b1_ ?_ | refine b3_ ?_ _)); exact BK333.out) hb); have n29_ := aM_ (SM.Is.below (l := lm2) (by (with_reducible repeat (first | refine SM.Is.drewN ?_ _ | refine SM.Is.drew ?_ | refine SM.Is.alloc ?_ _)); exact BKM.out) hb); have n3_ := aM_ (bB_ (g := gb344) (o := .cells #[u345000] 36 (0, 0)) (by (with_reducible repeat (first | refine b2_ ?_ _ | refine b1_ ?_ | refine b3_ ?_ _)); exact BK344.out) hb); have n4_ := aM_ (bT_ (by repeat (first | (with_reducible first | exact HB.out | apply bA_ | apply bN_ | apply bD_ | refine bS_ ?_ GE333.out | refine bS_ ?_ GE344.out) | exact HB.out)) hb); have n5_ := aM_ (hbox); have n6_ := aM_ ((by rw [hg]; exact (bZ_ (by repeat (first | (with_reducible first | exact HB.out | apply bA_ | apply bN_ | apply bD_ | refine bS_ ?_ GE333.out | refine bS_ ?_ GE344.out) | exact HB.out))) : w.heap.size ≤ gb348)); have n7_ := aM_ ((by rw [hg]; exact (bZ_ (by repeat (first | (with_reducible first | exact HB.out | apply bA_ | apply bN_ | apply bD_ | refine bS_ ?_ GE333.out | refine bS_ ?_ GE344.out) | exact HB.out))) : w.heap.size ≤ gb348)); have n8_ := aM_ ((by rw [hg]; exact Nat.ne_of_lt (bL_ (g := gb333) (o := .cells #[.slice none 0 0] 36 (0, 0)) (by (with_reducible repeat (first | refine b2_ ?_ _ | refine b1_ ?_ | refine b3_ ?_ _)); exact BK333.out)) : gb333 ≠ gb348)); have n89_ := aM_ ((by rw [hg]; exact Nat.ne_of_lt (SM.Is.lt (l := lm2) (by (with_reducible repeat (first | refine SM.Is.drewN ?_ _ | refine SM.Is.drew ?_ | refine SM.Is.alloc ?_ _)); exact BKM.out)) : gbM ≠ gb348)); have n9_ := aM_ ((by rw [hg]; exact Nat.ne_of_gt (bL_ (g := gb333) (o := .cells #[.slice none 0 0] 36 (0, 0)) (by (with_reducible repeat (first | refine b2_ ?_ _ | refine b1_ ?_ | refine b3_ ?_ _)); exact BK333.out)) : gb348 ≠ gb333)); have n99_ := aM_ ((by rw [hg]; exact Nat.ne_of_gt (SM.Is.lt (l := lm2) (by (with_reducible repeat (first | refine SM.Is.drewN ?_ _ | refine SM.Is.drew ?_ | refine SM.Is.alloc ?_ _)); exact BKM.out)) : gb348 ≠ gbM)); have n10_ := aM_ ((by rw [hg]; exact Nat.ne_of_lt (bL_ (g := gb344) (o := .cells #[u345000] 36 (0, 0)) (by (with_reducible repeat (first | refine b2_ ?_ _ | refine b1_ ?_ | refine b3_ ?_ _)); exact BK344.out)) : gb344 ≠ gb348)); have n11_ := aM_ ((by rw [hg]; exact Nat.ne_of_gt (bL_ (g := gb344) (o := .cells #[u345000] 36 (0, 0)) (by (with_reducible repeat (first | refine b2_ ?_ _ | refine b1_ ?_ | refine b3_ ?_ _)); exact BK344.out)) : gb348 ≠ gb344)); clear HO_39; clear HO_345000; clear BKM; clear BK333; clear BK344; clear HB; have HO_39 := n0_; have HO_345000 := n1_; have BK333 := n2_; have BKM := n29_; have BK344 := n3_; have HB := n4_; have BK348 := n5_; have GW348 := n6_; have GE348 := n7_; have NB333_348 := n8_; have NBM_348 := n89_; have NB348_333 := n9_; have NB348_M := n99_; have NB344_348 := n10_; have NB348_344 := n11_; clear n0_ n1_ n2_ n3_ n4_ n5_ n6_ n7_ n8_ n9_ n10_ n11_ n29_ n89_ n99_; clear hb hbox hg; have hnb28 := NB348_333.out; have hnc28 := NB333_348.out; have hnb29 := NB348_344.out; have hnc29 := NB344_348.out; have hcz30_0 : w27.cell? ⟨gb348, 0, none⟩ = some (.int .i64 0) := (bC_ BK348.out 0).trans rfl; have hcz30_1 : w27.cell? ⟨gb348, 1, none⟩ = some (.int .i64 0) := (bC_ BK348.out 1).trans rfl; have hcz30_2 : w27.cell? ⟨gb348, 2, none⟩ = some (.bool false) := (bC_ BK348.out 2).trans rfl; have hfz30_0 := bF_ BK348.out 0; have hfz30_1 := bF_ BK348.out 1; have hfz30_2 := bF_ BK348.out 2; have hnb31 := NB344_333.out; have hnc31 := NB333_344.out; have hcz32_0 : w27.cell? ⟨gb344, 0, none⟩ = some (u345000) := (bC_ BK344.out 0).trans rfl; have hfz32_0 := bF_ BK344.out 0) | ((with_reducible refine gate_builtin (b := .append) (xs := #[.tmp 76, .tmp 78]) rfl ?_); at_builtin; refine Kd.R_append k76 (w0 := w) w.heap.size rfl (.tmp 76) (.tmp 78) 34 76 (.agg #[(.int .i64 0), (.int .i64 0), (.bool false)]) 24 rfl Tryz.underlying34 info76 rfl (by decide) (by omega) u345000 x345000_2 (⟨(-1), (-1), t347⟩ : S76) [.int .i64 (-1), .int .i64 (-1), .bool t347] (fun k_ => k_ ≠ gb348) (fun _ => False) rfl (by (go_simp; done)) ?aP (fun _ hk => hk.elim) ?aF ?aO ?aB ?aS ?aL ?_; (case aP => exact k76_mkM _ _ _ (⟨(-1), (-1), t347⟩ : S76)); (case aB => exact (by repeat (first | (with_reducible first | exact HB.out | apply bA_ | apply bN_ | apply bD_ | refine bS_ ?_ GE333.out | refine bS_ ?_ GE344.out | refine bS_ ?_ GE348.out) | exact HB.out))); (case aF => exact (fun k_ hk => Kd.freshB (g := gb348) (o := .cells #[.int .i64 (-1), .int .i64 (-1), .bool t347] 76 (0, 0)) (by refine bP_ (cs := #[.int .i64 (-1), .int .i64 (-1), .bool false]) ?_ 2 _ rfl; refine bP_ (cs := #[.int .i64 (-1), .int .i64 0, .bool false]) ?_ 1 _ rfl; refine bP_ (cs := #[.int .i64 0, .int .i64 0, .bool false]) ?_ 0 _ rfl; exact BK348.out) k_ hk)); (case aO => exact (by exact kM_ (kF_ (p := ⟨gb348, 2, none⟩) (kF_ (p := ⟨gb348, 1, none⟩) (kF_ (p := ⟨gb348, 0, none⟩) (kM_ HO_345000.out (fun k_ hk => (⟨hk, hk.2⟩ : _ ∧ k_ ≠ gb348))) (fun _ hk => hk.2) (.int .i64 (-1))) (fun _ hk => hk.2) (.int .i64 (-1))) (fun _ hk => hk.2) (.bool t347)) (fun _ hk => hk.1.2))); (case aS => exact (bZ_ (by repeat (first | (with_reducible first | exact HB.out | apply bA_ | apply bN_ | apply bD_ | refine bS_ ?_ GE333.out | refine bS_ ?_ GE344.out | refine bS_ ?_ GE348.out) | exact HB.out)))); (case aL => have := LMc26.out; omega); intro v350 w33 ho hb hg hat; rw [← Ny349.out] at ho; have n0_ := aM_ (Kd.R_over' (by exact (kM_ (kF_ (p := ⟨gb348, 2, none⟩) (kF_ (p := ⟨gb348, 1, none⟩) (kF_ (p := ⟨gb348, 0, none⟩) (kT_ HO_39.out BK348.out (by decide)) (fun _ hk => hk.2) (.int .i64 (-1))) (fun _ hk => hk.2) (.int .i64 (-1))) (fun _ hk => hk.2) (.bool t347)) (fun _ h_ => h_.1))) (Kd.R_typed (by exact (kM_ (kF_ (p := ⟨gb348, 2, none⟩) (kF_ (p := ⟨gb348, 1, none⟩) (kF_ (p := ⟨gb348, 0, none⟩) (kM_ HO_345000.out (fun k_ hk => (⟨hk, hk.2⟩ : _ ∧ k_ ≠ gb348))) (fun _ hk => hk.2) (.int .i64 (-1))) (fun _ hk => hk.2) (.int .i64 (-1))) (fun _ hk => hk.2) (.bool t347)) (fun _ h_ => h_.1)))) (by decide) hg); have n1_ := aM_ (blk_grown (g := gb333) (o := .cells #[.slice none 0 0] 36 (0, 0)) (by refine bR_ ?_ NB333_348.out _; refine bR_ ?_ NB333_348.out _; refine bR_ ?_ NB333_348.out _; exact BK333.out) hg (k6_ HO_345000.out BK333.out (by decide))); have n19_ := aM_ (SM.Is.grown (l := lm2) (by (with_reducible repeat (first | refine SM.Is.drewN ?_ _ | refine SM.Is.drew ?_ | refine SM.Is.alloc ?_ _)); refine SM.Is.far ?_ NBM_348.out _; (with_reducible repeat (first | refine SM.Is.drewN ?_ _ | refine SM.Is.drew ?_ | refine SM.Is.alloc ?_ _)); refine SM.Is.far ?_ NBM_348.out _; (with_reducible repeat (first | refine SM.Is.drewN ?_ _ | refine SM.Is.drew ?_ | refine SM.Is.alloc ?_ _)); refine SM.Is.far ?_ NBM_348.out _; (with_reducible repeat (first | refine SM.Is.drewN ?_ _ | refine SM.Is.drew ?_ | refine SM.Is.alloc ?_ _)); exact BKM.out) hg (SM.Is.ne BKM.out HO_345000.out)); have n2_ := aM_ (blk_grown (g := gb344) (o := .cells #[u345000] 36 (0, 0)) (by refine bR_ ?_ NB344_348.out _; refine bR_ ?_ NB344_348.out _; refine bR_ ?_ NB344_348.out _; exact BK344.out) hg (k6_ HO_345000.out BK344.out (by decide))); have n3_ := aM_ (blk_grown (g := gb348) (o := .cells #[.int .i64 (-1), .int .i64 (-1), .bool t347] 76 (0, 0)) (by refine bP_ (cs := #[.int .i64 (-1), .int .i64 (-1), .bool false]) ?_ 2 _ rfl; refine bP_ (cs := #[.int .i64 (-1), .int .i64 0, .bool false]) ?_ 1 _ rfl; refine bP_ (cs := #[.int .i64 0, .int .i64 0, .bool false]) ?_ 0 _ rfl; exact BK348.out) hg (Kd.R_away HO_345000.out (fun _ hk => hk.2))); have n4_ := aM_ (hb); have n5_ := aM_ (ho); clear HO_39; clear BKM; clear BK333; clear BK344; clear BK348; clear HB; clear HO_345000; have HO_39 := n0_; have BK333 := n1_; have BKM := n19_; have BK344 := n2_; have BK348 := n3_; have HB := n4_; have HO351 := n5_; clear n0_ n1_ n2_ n3_ n4_ n5_ n19_; clear ho hb hg hat; obtain ⟨Ao34, co34, eo34⟩ := kS_ HO351.out; subst eo34; have hcz35_0 : w33.cell? ⟨gb344, 0, none⟩ = some (u345000) := (bC_ BK344.out 0).trans rfl; have hfz35_0 := bF_ BK344.out 0))
           go_roundg k2
           case measure => have := HK1.out; have := HK2.out; omega
           case rel => exact ⟨(wrap64 (x41_2 + 1)), (y349), (.slice Ao34 y349.length co34), (by rfl), H', ⟨by have := HK1.out; have := HK2.out; omega⟩, ⟨by exact kM_ (kF_ (p := ⟨gb344, 0, none⟩) (kT_ HO_39.out BK344.out (by decide)) (fun _ hk => hk.2) (.slice Ao34 y349.length co34)) (fun _ hk => trivial)⟩, ⟨by exact kM_ (kF_ (p := ⟨gb344, 0, none⟩) (kT_ HO351.out BK344.out (by decide)) (fun _ hk => hk.2) (.slice Ao34 y349.length co34)) (fun _ hk => trivial)⟩, ⟨by refine bR_ ?_ NB333_344.out _; exact BK333.out⟩, ⟨by refine bP_ (cs := #[u345000]) ?_ 0 _ rfl; exact BK344.out⟩, ⟨by repeat (first | (with_reducible first | exact HB.out | apply bA_ | apply bN_ | apply bD_ | refine bS_ ?_ GE333.out | refine bS_ ?_ GE344.out | refine bS_ ?_ GE348.out) | exact HB.out)⟩, ⟨by rw [SM.next_rd t341 x41_2 lm2 HLM2.out HLN.out HLL.out HLL2.out HSZ.out]; (with_reducible repeat (first | refine SM.Is.drewN ?_ _ | refine SM.Is.drew ?_ | refine SM.Is.alloc ?_ _)); refine SM.Is.far ?_ NBM_344.out _; (with_reducible repeat (first | refine SM.Is.drewN ?_ _ | refine SM.Is.drew ?_ | refine SM.Is.alloc ?_ _)); exact BKM.out⟩⟩
          ·
           rw [if_neg c26] at H
           exact absurd H (by simp)
         ·
          rw [if_neg c25] at H
          have c25b0 : ((rdOf eB_ t341 x41_2).toList == ([] : List UInt8)) = false := beq_eq_false_iff_ne.mpr c25
          have c25b1 : ((rdOf eB_ t341 x41_2).toList != ([] : List UInt8)) = true := bne_iff_ne.mpr c25
          obtain ⟨ji36, hji36⟩ : ∃ j_ : Int, (wrap64 (((rdOf eB_ t341 x41_2).size : Int) - 1)) = j_ := ⟨_, rfl⟩
          replace H : (if 0 ≤ (ji36) then (if (ji36) < ((rdOf eB_ t341 x41_2).size : Int) then (if (ji36) ≤ ((rdOf eB_ t341 x41_2).size : Int) then (if x345000_2.length < 5864062014805 then (impl_trieOf.l2 k2 l0 t341 (t341.length : Int) (wrap64 (x41_2 + 1)) (x345000_2 ++ [(⟨((bt (rdOf eB_ t341 x41_2) (ji36)) - 97) % 256, SM.at_ (List.take ((x41_2 : Int).toNat + 1) t341) ((rdOf eB_ t341 x41_2).extract 0 ((ji36) : Int).toNat), t347⟩ : S76)])) else (none)) else (none)) else (none)) else (none)) = some r := by first | (rw [hji36] at H; exact H) | (simp only [hji36] at H ⊢; exact H)
          (try rw [hji36] at A24)
          have hji36w : (IntKind.i64.wrap (((rdOf eB_ t341 x41_2).size : Int) - 1)) = ji36 := (i6_ _).trans hji36
          obtain ⟨mv, hmv⟩ : ∃ m_ : Int, SM.at_ (List.take ((x41_2 : Int).toNat + 1) t341) ((rdOf eB_ t341 x41_2).extract 0 ((ji36) : Int).toNat) = m_ := ⟨_, rfl⟩
          rw [hmv] at H
          have HMV := aM_ hmv
          clear hmv
          by_cases c37 : 0 ≤ (ji36)
          ·
           rw [if_pos c37] at H
           have c37b0 := decide_eq_true c37
           clear c37
           by_cases c38 : (ji36) < ((rdOf eB_ t341 x41_2).size : Int)
           ·
            rw [if_pos c38] at H
            have c38b0 := decide_eq_true c38
            clear c38
            have c40b0 := eq_true (of_decide_eq_true (by (with_reducible assumption)) : 0 ≤ (ji36))
            by_cases c41 : (ji36) ≤ ((rdOf eB_ t341 x41_2).size : Int)
            ·
             rw [if_pos c41] at H
             have c41b0 := eq_true c41
             have c41b1 := decide_eq_true c41
             clear c41
             by_cases c42 : x345000_2.length < 5864062014805
             ·
              rw [if_pos c42] at H
              have LMc42 := aM_ c42
              clear c42
              obtain ⟨y352, hy352⟩ : ∃ y_ : List (S76), y_ = (x345000_2 ++ [(⟨((bt (rdOf eB_ t341 x41_2) (ji36)) - 97) % 256, mv, t347⟩ : S76)]) := ⟨_, rfl⟩
              replace H : (impl_trieOf.l2 k2 l0 t341 (t341.length : Int) (wrap64 (x41_2 + 1)) y352) = some r := by first | (rw [hy352]; with_reducible exact H) | (have H2_ := (Option.bind_some _ _).symm.trans H; rw [hy352]; with_reducible exact H2_) | (have H2_ := (Option.bind_some _ _).symm.trans H; with_reducible exact H2_) | with_reducible exact H | (rw [hy352]; exact H) | exact H
              have Ny352 := aM_ hy352
              clear hy352
              have H' := aM_ H
              clear H
              have p345 : 0 ≤ (x41_2 : Int) := of_decide_eq_true (by (with_reducible assumption))
              have q345 : x41_2 < (t341.length : Int) := of_decide_eq_true (by (with_reducible assumption))
              have HLL := aM_ (show (lm.length : Int) = x41_2 from by rw [HLM.out, List.length_take]; omega)
              have HLL2 := aM_ (show lm.length < t341.length from by rw [HLM.out, List.length_take]; omega)
              have HLP := aM_ (SM.okL.size HSZ.out x41_2 p345 q345)
              have HLN := aM_ (show lm ++ [rdOf eB_ t341 x41_2] = List.take ((x41_2 : Int).toNat + 1) t341 from by rw [HLM.out]; exact SM.take_rd t341 x41_2 p345 q345)
              have hwz_ : wrap64 ((bt (rdOf eB_ t341 x41_2) ji36 - 97) % 256) = (bt (rdOf eB_ t341 x41_2) ji36 - 97) % 256 := by unfold wrap64; omega
              obtain ⟨ad345, e345, hx345_0⟩ := Kd.at_string (kR_ HO_39.out).2.2 x41_2 p345 q345
              cases e345
              replace p345 := eq_true p345
              replace q345 := eq_true q345
              try go_wp2_with (first | (at_mapUpdate; refine SM.put rfl (.tmp 46) (.tmp 47) (.tmp 48) 106 Tryz.underlying106 rfl gbM lm rfl (by (with_reducible repeat (first | refine SM.Is.drewN ?_ _ | refine SM.Is.drew ?_ | refine SM.Is.alloc ?_ _)); exact BKM.out) ?hn (rdOf eB_ t341 x41_2) ?hp rfl ?hv ?_; (case hn => have h1_ := SM.okL.len HSZ.out; have h2_ := HLL2.out; omega); (case hp => have h1_ := HLP.out; unfold maxLen; omega); (case hv => exact (congrArg (Value.int IntKind.i64) HLL.out).symm); intro w9m h1m hgm; obtain ⟨lm2, hlm2⟩ : ∃ l_ : List ByteArray, l_ = lm ++ [rdOf eB_ t341 x41_2] := ⟨_, rfl⟩; rw [← hlm2] at h1m; have HLM2 := aM_ hlm2; clear hlm2; have nr0_ := aM_ (SM.R_over HO_39.out (by (with_reducible repeat (first | refine SM.Is.drewN ?_ _ | refine SM.Is.drew ?_ | refine SM.Is.alloc ?_ _)); exact BKM.out) hgm); have nr1_ := aM_ (SM.R_over HO_345000.out (by (with_reducible repeat (first | refine SM.Is.drewN ?_ _ | refine SM.Is.drew ?_ | refine SM.Is.alloc ?_ _)); exact BKM.out) hgm); have nb_ := aM_ (blk_grown (g := gb333) (o := .cells #[.slice none 0 0] 36 (0, 0)) BK333.out hgm (fun e_ => NBM_333.out (Option.some.inj e_).symm)); have nt_ := aM_ (blk_grown (g := gb344) BK344.out hgm (fun e_ => NBM_344.out (Option.some.inj e_).symm)); have nh_ := aM_ (RowKit.Below.grown HB.out hgm (bZ_ HB.out) (fun j hj => by cases hj; exact GEM.out)); clear HO_39 HO_345000 BK333 BK344 HB BKM; have HO_39 := nr0_; clear nr0_; have HO_345000 := nr1_; clear nr1_; have BK333 := nb_; have BK344 := nt_; have HB := nh_; have BKM := aM_ h1m; clear nb_ nt_ nh_ h1m hgm) | ((with_reducible refine gC_ (f := 93) rfl ?_); refine goesL_ (some 52) rfl rfl Tryz.func93 (by kernel_rfl) rfl #[.slice A0 l0.length c0, .string (rdOf eB_ t341 x41_2)] rfl (by (try simp only [sD_, sE_, sF_]); rfl) ?_; (with_reducible refine (slices_BinarySearch_string_string.calls k2 _ _ l0 (rdOf eB_ t341 x41_2) t346 t347 _ ?side1 ?side2 A24.out).mono ?_); (case side1 => repeat (first | exact (k4_ HR0.out HB.out) | (with_reducible refine Kd.C_alloc ?_ _) | (with_reducible refine Kd.C_drewN ?_ _) | (with_reducible refine Kd.C_drew ?_))); (case side2 => exact HC0.out); rintro e w' ⟨rfl, ⟨nd, rfl⟩⟩; refine ⟨_, rfl, ?_⟩; (try (rw [drewN_self wr]; generalize hq_ : World.drewN wr _ = wr; have n0_ : Aside0 (Kd.R k76 76 wr w.heap.size (fun _ => True) u345000 x345000_2) := ⟨by rw [← hq_]; exact (by (with_reducible repeat (first | apply k1_ | apply k2_ | apply k3_)); exact HO_345000.out)⟩; have n1_ : Aside0 (Kd.R Kd.string 9 wr w.heap.size (fun _ => True) (.slice (some ad345) t341.length co20) t341) := ⟨by rw [← hq_]; exact (by (with_reducible repeat (first | apply k1_ | apply k2_ | apply k3_)); exact HO_39.out)⟩; have n2_ : Aside0 (wr.heap[gb333]? = some (.cells #[.slice none 0 0] 36 (0, 0))) := ⟨by rw [← hq_]; exact (by (with_reducible repeat (first | refine b2_ ?_ _ | refine b1_ ?_ | refine b3_ ?_ _)); exact BK333.out)⟩; have n29_ : Aside0 (SM.Is wr gbM lm2) := ⟨by rw [← hq_]; exact (by (with_reducible repeat (first | refine SM.Is.drewN ?_ _ | refine SM.Is.drew ?_ | refine SM.Is.alloc ?_ _)); exact BKM.out)⟩; have n3_ : Aside0 (wr.heap[gb344]? = some (.cells #[u345000] 36 (0, 0))) := ⟨by rw [← hq_]; exact (by (with_reducible repeat (first | refine b2_ ?_ _ | refine b1_ ?_ | refine b3_ ?_ _)); exact BK344.out)⟩; have n4_ : Aside0 (Below w.heap.size w wr) := ⟨by rw [← hq_]; exact (by repeat (first | (with_reducible first | exact HB.out | apply bA_ | apply bN_ | apply bD_ | refine bS_ ?_ GE333.out | refine bS_ ?_ GE344.out) | exact HB.out))⟩; clear HO_345000 HO_39 BKM BK333 BK344 HB hq_; have HO_345000 := n0_; have HO_39 := n1_; have BK333 := n2_; have BKM := n29_; have BK344 := n3_; have HB := n4_; clear n0_ n1_ n2_ n3_ n4_ n29_))) | ((with_reducible refine gD_ (N := 13) rfl ?_); refine bE_ ?hg (N := 13) ?hd (cs := #[.int .i64 0, .int .i64 0, .bool false]) (t := 76) ?hr ?_; (case hd => rfl); (case hg => rfl); (case hr => (go_simp; done)); intro gb348 hg w43 hbox hb; have n0_ := aM_ (kB_ (by (with_reducible repeat (first | apply k1_ | apply k2_ | apply k3_)); exact HO_39.out) hb); have n1_ := aM_ (kB_ (Kd.R_elderB (by (with_reducible repeat (first | apply k1_ | apply k2_ | apply k3_)); exact HO_345000.out) gb348 (Nat.le_of_eq hg.symm)) hb); have n2_ := aM_ (bB_ (g := gb333) (o := .cells #[.slice none 0 0] 36 (0, 0)) (by (with_reducible repeat (first | refine b2_ ?_ _ | refine b1_ ?_ | refine b3_ ?_ _)); exact BK333.out) hb); have n29_ := aM_ (SM.Is.below (l := lm2) (by (with_reducible repeat (first | refine SM.Is.drewN ?_ _ | refine SM.Is.drew ?_ | refine SM.Is.alloc ?_ _)); exact BKM.out) hb); have n3_ := aM_ (bB_ (g := gb344) (o := .cells #[u345000] 36 (0, 0)) (by (with_reducible repeat (first | refine b2_ ?_ _ | refine b1_ ?_ | refine b3_ ?_ _)); exact BK344.out) hb); have n4_ := aM_ (bT_ (by repeat (first | (with_reducible first | exact HB.out | apply bA_ | apply bN_ | apply bD_ | refine bS_ ?_ GE333.out | refine bS_ ?_ GE344.out) | exact HB.out)) hb); have n5_ := aM_ (hbox); have n6_ := aM_ ((by rw [hg]; exact (bZ_ (by repeat (first | (with_reducible first | exact HB.out | apply bA_ | apply bN_ | apply bD_ | refine bS_ ?_ GE333.out | refine bS_ ?_ GE344.out) | exact HB.out))) : w.heap.size ≤ gb348)); have n7_ := aM_ ((by rw [hg]; exact (bZ_ (by repeat (first | (with_reducible first | exact HB.out | apply bA_ | apply bN_ | apply bD_ | refine bS_ ?_ GE333.out | refine bS_ ?_ GE344.out) | exact HB.out))) : w.heap.size ≤ gb348)); have n8_ := aM_ ((by rw [hg]; exact Nat.ne_of_lt (bL_ (g := gb333) (o := .cells #[.slice none 0 0] 36 (0, 0)) (by (with_reducible repeat (first | refine b2_ ?_ _ | refine b1_ ?_ | refine b3_ ?_ _)); exact BK333.out)) : gb333 ≠ gb348)); have n89_ := aM_ ((by rw [hg]; exact Nat.ne_of_lt (SM.Is.lt (l := lm2) (by (with_reducible repeat (first | refine SM.Is.drewN ?_ _ | refine SM.Is.drew ?_ | refine SM.Is.alloc ?_ _)); exact BKM.out)) : gbM ≠ gb348)); have n9_ := aM_ ((by rw [hg]; exact Nat.ne_of_gt (bL_ (g := gb333) (o := .cells #[.slice none 0 0] 36 (0, 0)) (by (with_reducible repeat (first | refine b2_ ?_ _ | refine b1_ ?_ | refine b3_ ?_ _)); exact BK333.out)) : gb348 ≠ gb333)); have n99_ := aM_ ((by rw [hg]; exact Nat.ne_of_gt (SM.Is.lt (l := lm2) (by (with_reducible repeat (first | refine SM.Is.drewN ?_ _ | refine SM.Is.drew ?_ | refine SM.Is.alloc ?_ _)); exact BKM.out)) : gb348 ≠ gbM)); have n10_ := aM_ ((by rw [hg]; exact Nat.ne_of_lt (bL_ (g := gb344) (o := .cells #[u345000] 36 (0, 0)) (by (with_reducible repeat (first | refine b2_ ?_ _ | refine b1_ ?_ | refine b3_ ?_ _)); exact BK344.out)) : gb344 ≠ gb348)); have n11_ := aM_ ((by rw [hg]; exact Nat.ne_of_gt (bL_ (g := gb344) (o := .cells #[u345000] 36 (0, 0)) (by (with_reducible repeat (first | refine b2_ ?_ _ | refine b1_ ?_ | refine b3_ ?_ _)); exact BK344.out)) : gb348 ≠ gb344)); clear HO_39; clear HO_345000; clear BKM; clear BK333; clear BK344; clear HB; have HO_39 := n0_; have HO_345000 := n1_; have BK333 := n2_; have BKM := n29_; have BK344 := n3_; have HB := n4_; have BK348 := n5_; have GW348 := n6_; have GE348 := n7_; have NB333_348 := n8_; have NBM_348 := n89_; have NB348_333 := n9_; have NB348_M := n99_; have NB344_348 := n10_; have NB348_344 := n11_; clear n0_ n1_ n2_ n3_ n4_ n5_ n6_ n7_ n8_ n9_ n10_ n11_ n29_ n89_ n99_; clear hb hbox hg; have hnb44 := NB348_333.out; have hnc44 := NB333_348.out; have hnb45 := NB348_344.out; have hnc45 := NB344_348.out; have hcz46_0 : w43.cell? ⟨gb348, 0, none⟩ = some (.int .i64 0) := (bC_ BK348.out 0).trans rfl; have hcz46_1 : w43.cell? ⟨gb348, 1, none⟩ = some (.int .i64 0) := (bC_ BK348.out 1).trans rfl; have hcz46_2 : w43.cell? ⟨gb348, 2, none⟩ = some (.bool false) := (bC_ BK348.out 2).trans rfl; have hfz46_0 := bF_ BK348.out 0; have hfz46_1 := bF_ BK348.out 1; have hfz46_2 := bF_ BK348.out 2))
              have n0_ : Aside0 (Kd.R Kd.string 9 (((w43.setCell ⟨gb348, 0, none⟩ (.int .i64 (-1))).setCell ⟨gb348, 1, none⟩ (.int .i64 (-1))).setCell ⟨gb348, 2, none⟩ (.bool t347)) w.heap.size (fun _ => True) (.slice (some ad345) t341.length co20) t341) := ⟨by exact kM_ (kF_ (p := ⟨gb348, 2, none⟩) (kF_ (p := ⟨gb348, 1, none⟩) (kF_ (p := ⟨gb348, 0, none⟩) (kT_ HO_39.out BK348.out (by decide)) (fun _ hk => hk.2) (.int .i64 (-1))) (fun _ hk => hk.2) (.int .i64 (-1))) (fun _ hk => hk.2) (.bool t347)) (fun _ hk => trivial)⟩
              have n1_ : Aside0 (Kd.R k76 76 (((w43.setCell ⟨gb348, 0, none⟩ (.int .i64 (-1))).setCell ⟨gb348, 1, none⟩ (.int .i64 (-1))).setCell ⟨gb348, 2, none⟩ (.bool t347)) w.heap.size (fun k_ => k_ ≠ gb348) u345000 x345000_2) := ⟨by exact kM_ (kF_ (p := ⟨gb348, 2, none⟩) (kF_ (p := ⟨gb348, 1, none⟩) (kF_ (p := ⟨gb348, 0, none⟩) (kM_ HO_345000.out (fun k_ hk => (⟨hk, hk.2⟩ : _ ∧ k_ ≠ gb348))) (fun _ hk => hk.2) (.int .i64 (-1))) (fun _ hk => hk.2) (.int .i64 (-1))) (fun _ hk => hk.2) (.bool t347)) (fun _ hk => hk.1.2)⟩
              have n2_ : Aside0 ((((w43.setCell ⟨gb348, 0, none⟩ (.int .i64 (-1))).setCell ⟨gb348, 1, none⟩ (.int .i64 (-1))).setCell ⟨gb348, 2, none⟩ (.bool t347)).heap[gb333]? = some (.cells #[.slice none 0 0] 36 (0, 0))) := ⟨by refine bR_ ?_ NB333_348.out _; refine bR_ ?_ NB333_348.out _; refine bR_ ?_ NB333_348.out _; exact BK333.out⟩
              have n29_ : Aside0 (SM.Is (((w43.setCell ⟨gb348, 0, none⟩ (.int .i64 (-1))).setCell ⟨gb348, 1, none⟩ (.int .i64 (-1))).setCell ⟨gb348, 2, none⟩ (.bool t347)) gbM lm2) := ⟨by (with_reducible repeat (first | refine SM.Is.drewN ?_ _ | refine SM.Is.drew ?_ | refine SM.Is.alloc ?_ _)); refine SM.Is.far ?_ NBM_348.out _; (with_reducible repeat (first | refine SM.Is.drewN ?_ _ | refine SM.Is.drew ?_ | refine SM.Is.alloc ?_ _)); refine SM.Is.far ?_ NBM_348.out _; (with_reducible repeat (first | refine SM.Is.drewN ?_ _ | refine SM.Is.drew ?_ | refine SM.Is.alloc ?_ _)); refine SM.Is.far ?_ NBM_348.out _; (with_reducible repeat (first | refine SM.Is.drewN ?_ _ | refine SM.Is.drew ?_ | refine SM.Is.alloc ?_ _)); exact BKM.out⟩
              have n3_ : Aside0 ((((w43.setCell ⟨gb348, 0, none⟩ (.int .i64 (-1))).setCell ⟨gb348, 1, none⟩ (.int .i64 (-1))).setCell ⟨gb348, 2, none⟩ (.bool t347)).heap[gb344]? = some (.cells #[u345000] 36 (0, 0))) := ⟨by refine bR_ ?_ NB344_348.out _; refine bR_ ?_ NB344_348.out _; refine bR_ ?_ NB344_348.out _; exact BK344.out⟩
              have n4_ : Aside0 ((((w43.setCell ⟨gb348, 0, none⟩ (.int .i64 (-1))).setCell ⟨gb348, 1, none⟩ (.int .i64 (-1))).setCell ⟨gb348, 2, none⟩ (.bool t347)).heap[gb348]? = some (.cells #[.int .i64 (-1), .int .i64 (-1), .bool t347] 76 (0, 0))) := ⟨by refine bP_ (cs := #[.int .i64 (-1), .int .i64 (-1), .bool false]) ?_ 2 _ rfl; refine bP_ (cs := #[.int .i64 (-1), .int .i64 0, .bool false]) ?_ 1 _ rfl; refine bP_ (cs := #[.int .i64 0, .int .i64 0, .bool false]) ?_ 0 _ rfl; exact BK348.out⟩
              have n5_ : Aside0 (Below w.heap.size w (((w43.setCell ⟨gb348, 0, none⟩ (.int .i64 (-1))).setCell ⟨gb348, 1, none⟩ (.int .i64 (-1))).setCell ⟨gb348, 2, none⟩ (.bool t347))) := ⟨by repeat (first | (with_reducible first | exact HB.out | apply bA_ | apply bN_ | apply bD_ | refine bS_ ?_ GE333.out | refine bS_ ?_ GE344.out | refine bS_ ?_ GE348.out) | exact HB.out)⟩
              (try clear HO_39)
              (try clear HO_345000)
              (try clear BK333); (try clear BKM)
              (try clear BK344)
              (try clear BK348)
              (try clear HB)
              generalize (((w43.setCell ⟨gb348, 0, none⟩ (.int .i64 (-1))).setCell ⟨gb348, 1, none⟩ (.int .i64 (-1))).setCell ⟨gb348, 2, none⟩ (.bool t347)) = w47 at n0_ n1_ n2_ n3_ n4_ n5_ n29_ ⊢
              have HO_39 := n0_
              have HO_345000 := n1_
              have BK333 := n2_
              have BKM := n29_
              have BK344 := n3_
              have BK348 := n4_
              have HB := n5_
              clear n0_ n1_ n2_ n3_ n4_ n5_ n29_
              have n0_ := aM_ (k3_ HO_39.out)
              have n1_ := aM_ (k3_ HO_345000.out)
              have n2_ := aM_ (b1_ BK333.out)
              have n29_ := aM_ (SM.Is.drew BKM.out)
              have n3_ := aM_ (b1_ BK344.out)
              have n4_ := aM_ (b1_ BK348.out)
              have n5_ := aM_ (bD_ HB.out)
              clear HO_39
              clear HO_345000
              clear BKM; clear BK333
              clear BK344
              clear BK348
              clear HB
              have HO_39 := n0_
              have HO_345000 := n1_
              have BK333 := n2_
              have BKM := n29_
              have BK344 := n3_
              have BK348 := n4_
              have HB := n5_
              clear n0_ n1_ n2_ n3_ n4_ n5_ n29_
              have p39 : 0 ≤ ((ji36) : Int) := of_decide_eq_true (by (with_reducible assumption))
              have q39 : (ji36) < ((rdOf eB_ t341 x41_2).size : Int) := of_decide_eq_true (by (with_reducible assumption))
              have hx39 := bt_at (rdOf eB_ t341 x41_2) (ji36)
              replace p39 := eq_true p39
              replace q39 := eq_true q39
              refine start_ (n := 18) (S := fun w' => SM.Is w' gbM lm2) (ds := []) #[fy, fy, fy, fy, fy, fy, fy, fy, fy, fy, fy, fy, fy, fy, fy, fy, fy, fy] (by kernel_rfl) rfl rfl (SM.Is.drew BKM.out) (fun hHeld => ?_); refine with_tabW impl_trieOf.tab20 impl_trieOf.bits20 (fun HT_ HW_ => ?_)
              generalize w47.drew = w48 at HO_39 HO_345000 BKM BK333 BK344 BK348 HB hHeld ⊢
              refine pure_ (i := 0) (N := some 59) (v := ?_) (a' := ?_) #[ty, fy, fy, fy, fy, fy, fy, fy, fy, fy, fy, fy, fy, fy, fy, fy, fy, fy] rfl rfl (aO_ HT_.out (by kernel_rfl)) (fun _ _ _ h => h) (Or.inl ⟨by rfl, ?_⟩) ?_ ?_; rotate_left; (intro w'; go_simp; with_reducible rfl); rotate_left; (simp only [Act.put, sA_, sB_, sC_, i6_, i3_]; rfl)
              refine pure_ (i := 1) (N := some 60) (v := ?_) (a' := ?_) #[ty, ty, fy, fy, fy, fy, fy, fy, fy, fy, fy, fy, fy, fy, fy, fy, fy, fy] rfl rfl (aO_ HT_.out (by kernel_rfl)) (fun _ _ _ h => h) (Or.inl ⟨by rfl, ?_⟩) ?_ ?_; rotate_left; (intro w'; go_simp; with_reducible rfl); rotate_left; (simp only [Act.put, sA_, sB_, sC_, i6_, i3_]; rfl)
              refine pure_ (i := 2) (N := some 61) (v := ?_) (a' := ?_) #[ty, ty, ty, fy, fy, fy, fy, fy, fy, fy, fy, fy, fy, fy, fy, fy, fy, fy] rfl rfl (aO_ HT_.out (by kernel_rfl)) (fun _ _ _ h => h) (Or.inl ⟨by rfl, ?_⟩) ?_ ?_; rotate_left; (intro w'; go_simp; with_reducible rfl); rotate_left; (simp only [Act.put, sA_, sB_, sC_, i6_, i3_]; rfl)
              refine pure_ (i := 3) (N := some 62) (v := ?_) (a' := ?_) #[ty, ty, ty, ty, fy, fy, fy, fy, fy, fy, fy, fy, fy, fy, fy, fy, fy, fy] rfl rfl (aO_ HT_.out (by kernel_rfl)) (fun _ _ _ h => h) (Or.inl ⟨by rfl, ?_⟩) ?_ ?_; rotate_left; (intro w'; go_simp; with_reducible rfl); rotate_left; (simp only [Act.put, sA_, sB_, sC_, i6_, i3_]; rfl)
              refine pure_ (i := 7) (N := some 66) (v := ?_) (a' := ?_) #[ty, ty, ty, ty, fy, fy, fy, ty, fy, fy, fy, fy, fy, fy, fy, fy, fy, fy] rfl rfl (aO_ HT_.out (by kernel_rfl)) (fun _ _ _ h => h) (Or.inl ⟨by rfl, ?_⟩) ?_ ?_; rotate_left; (intro w'; go_simp; with_reducible rfl); rotate_left; (simp only [Act.put, sA_, sB_, sC_, i6_, i3_]; rfl)
              refine pure_ (i := 8) (N := some 67) (v := ?_) (a' := ?_) #[ty, ty, ty, ty, fy, fy, fy, ty, ty, fy, fy, fy, fy, fy, fy, fy, fy, fy] rfl rfl (aO_ HT_.out (by kernel_rfl)) (fun _ _ _ h => h) (Or.inl ⟨by rfl, ?_⟩) ?_ ?_; rotate_left; (intro w'; go_simp; with_reducible rfl); rotate_left; (simp only [Act.put, sA_, sB_, sC_, i6_, i3_]; rfl)
              refine pure_ (i := 9) (N := some 68) (v := ?_) (a' := ?_) #[ty, ty, ty, ty, fy, fy, fy, ty, ty, ty, fy, fy, fy, fy, fy, fy, fy, fy] rfl rfl (aO_ HT_.out (by kernel_rfl)) (fun _ _ _ h => h) (Or.inl ⟨by rfl, ?_⟩) ?_ ?_; rotate_left; (intro w'; go_simp; with_reducible rfl); rotate_left; (simp only [Act.put, sA_, sB_, sC_, i6_, i3_]; rfl)
              refine pure_ (i := 10) (N := some 69) (v := ?_) (a' := ?_) #[ty, ty, ty, ty, fy, fy, fy, ty, ty, ty, ty, fy, fy, fy, fy, fy, fy, fy] rfl rfl (aO_ HT_.out (by kernel_rfl)) (fun _ _ _ h => h) (Or.inl ⟨by rfl, ?_⟩) ?_ ?_; rotate_left; (intro w'; go_simp; with_reducible rfl); rotate_left; (simp only [Act.put, sA_, sB_, sC_, i6_, i3_]; rfl)
              refine pure_ (i := 11) (N := some 70) (v := ?_) (a' := ?_) #[ty, ty, ty, ty, fy, fy, fy, ty, ty, ty, ty, ty, fy, fy, fy, fy, fy, fy] rfl rfl (aO_ HT_.out (by kernel_rfl)) (fun _ _ _ h => h) (Or.inl ⟨by rfl, ?_⟩) ?_ ?_; rotate_left; (intro w'; go_simp; with_reducible rfl); rotate_left; (simp only [Act.put, sA_, sB_, sC_, i6_, i3_]; rfl)
              refine pure_ (i := 12) (N := some 71) (v := ?_) (a' := ?_) #[ty, ty, ty, ty, fy, fy, fy, ty, ty, ty, ty, ty, ty, fy, fy, fy, fy, fy] rfl rfl (aO_ HT_.out (by kernel_rfl)) (fun _ _ _ h => h) (Or.inl ⟨by rfl, ?_⟩) ?_ ?_; rotate_left; (intro w'; go_simp; with_reducible rfl); rotate_left; (simp only [Act.put, sA_, sB_, sC_, i6_, i3_]; rfl)
              refine take_ (i := 13) (N := some 72) (v := ?_) (a' := ?_) #[ty, ty, ty, ty, fy, fy, fy, ty, ty, ty, ty, ty, ty, ty, fy, fy, fy, fy] rfl rfl (tW_ HT_.out HW_.out (by kernel_rfl)) (fun _ _ _ h => h) (Or.inl ⟨by rfl, ?_⟩) hHeld ?_ ?_
              rotate_left
              ·
               intro w' hS_
               have hlk_ := SM.get hS_ 106 Tryz.underlying106 ((rdOf eB_ t341 x41_2).extract 0 ((ji36) : Int).toNat) (SM.size_ext _ _ HLP.out)
               rw [show SM.at_ lm2 ((rdOf eB_ t341 x41_2).extract 0 ((ji36) : Int).toNat) = mv from by rw [HLM2.out, HLN.out]; exact HMV.out] at hlk_
               go_simp
               with_reducible rfl
              rotate_left
              ·
               simp only [Act.put, sA_, sB_, sC_, i6_, i3_]
               rfl
              refine take_ (i := 4) (N := some 63) (v := ?_) (a' := ?_) #[ty, ty, ty, ty, ty, fy, fy, ty, ty, ty, ty, ty, ty, ty, fy, fy, fy, fy] rfl rfl (tW_ HT_.out HW_.out (by kernel_rfl)) (fun _ _ _ h => h) (Or.inl ⟨by rfl, ?_⟩) hHeld ?_ ?_; rotate_left; (intro w' _; go_simp; with_reducible rfl); rotate_left; (simp only [Act.put, sA_, sB_, sC_, i6_, i3_]; rfl)
              refine pure_ (i := 5) (N := some 64) (v := ?_) (a' := ?_) #[ty, ty, ty, ty, ty, ty, fy, ty, ty, ty, ty, ty, ty, ty, fy, fy, fy, fy] rfl rfl (aO_ HT_.out (by kernel_rfl)) (fun _ _ _ h => h) (Or.inl ⟨by rfl, ?_⟩) ?_ ?_; rotate_left; (intro w'; go_simp; with_reducible rfl); rotate_left; (simp only [Act.put, sA_, sB_, sC_, i6_, i3_]; rfl)
              refine pure_ (i := 6) (N := some 65) (v := ?_) (a' := ?_) #[ty, ty, ty, ty, ty, ty, ty, ty, ty, ty, ty, ty, ty, ty, fy, fy, fy, fy] rfl rfl (aO_ HT_.out (by kernel_rfl)) (fun _ _ _ h => h) (Or.inl ⟨by rfl, ?_⟩) ?_ ?_; rotate_left; (intro w'; go_simp; with_reducible rfl); rotate_left; (simp only [Act.put, sA_, sB_, sC_, i6_, i3_]; rfl)
              refine pure_ (i := 14) (N := some 73) (v := ?_) (a' := ?_) #[ty, ty, ty, ty, ty, ty, ty, ty, ty, ty, ty, ty, ty, ty, ty, fy, fy, fy] rfl rfl (aO_ HT_.out (by kernel_rfl)) (fun _ _ _ h => h) (Or.inl ⟨by rfl, ?_⟩) ?_ ?_; rotate_left; (intro w'; go_simp; with_reducible rfl); rotate_left; (simp only [Act.put, sA_, sB_, sC_, i6_, i3_]; rfl)
              refine one_ (i := 15) (N := none) #[ty, ty, ty, ty, ty, ty, ty, ty, ty, ty, ty, ty, ty, ty, ty, ty, fy, fy] rfl rfl (one_of HT_.out (by kernel_rfl)) (by decide) (fun K hK => ?_)
              have hs49 : w48.cell? ⟨gb348, 0, none⟩ = some (.int .i64 (-1)) := (bC_ BK348.out 0).trans rfl
              have hfs49 := bF_ BK348.out 0
              have hns49_0 := NB333_348.out
              have hns49_1 := NB344_348.out
              have hms49_0 := NB348_333.out
              have hms49_1 := NB348_344.out
              refine skip_ (w1 := ?_) (by rfl) rfl ?_ ?_
              rotate_left
              ·
               go_simp
               rfl
              refine hK.out _ _ (by exact SM.Is.far hHeld NBM_348.out _) (fun hHeld => ?_)
              clear hK K
              refine pure_ (i := 16) (N := some 74) (v := ?_) (a' := ?_) #[ty, ty, ty, ty, ty, ty, ty, ty, ty, ty, ty, ty, ty, ty, ty, ty, ty, fy] rfl rfl (aO_ HT_.out (by kernel_rfl)) (fun _ _ _ h => h) (Or.inl ⟨by rfl, ?_⟩) ?_ ?_; rotate_left; (intro w'; go_simp; with_reducible rfl); rotate_left; (simp only [Act.put, sA_, sB_, sC_, i6_, i3_]; rfl)
              refine one_ (i := 17) (N := none) #[ty, ty, ty, ty, ty, ty, ty, ty, ty, ty, ty, ty, ty, ty, ty, ty, ty, ty] rfl rfl (one_of HT_.out (by kernel_rfl)) (by decide) (fun K hK => ?_)
              have hs50 : w48.cell? ⟨gb348, 1, none⟩ = some (.int .i64 (-1)) := (bC_ BK348.out 1).trans rfl
              have hfs50 := bF_ BK348.out 1
              have hns50_0 := NB333_348.out
              have hns50_1 := NB344_348.out
              have hms50_0 := NB348_333.out
              have hms50_1 := NB348_344.out
              refine skip_ (w1 := ?_) (by rfl) rfl ?_ ?_
              rotate_left
              ·
               go_simp
               rfl
              refine hK.out _ _ (by exact SM.Is.far hHeld NBM_348.out _) (fun hHeld => ?_)
              clear hK K
              refine done_ (done_of HT_.out (by kernel_rfl)) ?_
              have hnb51 := NB344_333.out
              have hnc51 := NB333_344.out
              have hcz52_0 : w48.cell? ⟨gb344, 0, none⟩ = some (u345000) := (bC_ BK344.out 0).trans rfl
              have hfz52_0 := bF_ BK344.out 0
              have hcz53_0 : w48.cell? ⟨gb348, 0, none⟩ = some (.int .i64 (-1)) := (bC_ BK348.out 0).trans rfl
              have hcz53_1 : w48.cell? ⟨gb348, 1, none⟩ = some (.int .i64 (-1)) := (bC_ BK348.out 1).trans rfl
              have hcz53_2 : w48.cell? ⟨gb348, 2, none⟩ = some (.bool t347) := (bC_ BK348.out 2).trans rfl
              have hfz53_0 := bF_ BK348.out 0
              have hfz53_1 := bF_ BK348.out 1
              have hfz53_2 := bF_ BK348.out 2
              try go_wp2_with (first | ((with_reducible refine gate_builtin (b := .append) (xs := #[.tmp 76, .tmp 78]) rfl ?_); at_builtin; refine Kd.R_append k76 (w0 := w) w.heap.size rfl (.tmp 76) (.tmp 78) 34 76 (.agg #[(.int .i64 0), (.int .i64 0), (.bool false)]) 24 rfl Tryz.underlying34 info76 rfl (by decide) (by omega) u345000 x345000_2 (⟨((bt (rdOf eB_ t341 x41_2) (ji36)) - 97) % 256, mv, t347⟩ : S76) [.int .i64 (((bt (rdOf eB_ t341 x41_2) (ji36)) - 97) % 256), .int .i64 mv, .bool t347] (fun k_ => k_ ≠ gb348) (fun _ => False) rfl (by (go_simp; done)) ?aP (fun _ hk => hk.elim) ?aF ?aO ?aB ?aS ?aL ?_; (case aP => exact k76_mkM _ _ _ (⟨((bt (rdOf eB_ t341 x41_2) (ji36)) - 97) % 256, mv, t347⟩ : S76)); (case aB => exact (by repeat (first | (with_reducible first | exact HB.out | apply bA_ | apply bN_ | apply bD_ | refine bS_ ?_ GE333.out | refine bS_ ?_ GE344.out | refine bS_ ?_ GE348.out) | exact HB.out))); (case aF => exact (fun k_ hk => Kd.freshB (g := gb348) (o := .cells #[.int .i64 (((bt (rdOf eB_ t341 x41_2) (ji36)) - 97) % 256), .int .i64 mv, .bool t347] 76 (0, 0)) (by refine bP_ (cs := #[.int .i64 (((bt (rdOf eB_ t341 x41_2) (ji36)) - 97) % 256), .int .i64 (-1), .bool t347]) ?_ 1 _ rfl; refine bP_ (cs := #[.int .i64 (-1), .int .i64 (-1), .bool t347]) ?_ 0 _ rfl; exact BK348.out) k_ hk)); (case aO => exact (by exact kM_ (kF_ (p := ⟨gb348, 1, none⟩) (kF_ (p := ⟨gb348, 0, none⟩) (kM_ HO_345000.out (fun k_ hk => (⟨hk, hk⟩ : _ ∧ k_ ≠ gb348))) (fun _ hk => hk.2) (.int .i64 (((bt (rdOf eB_ t341 x41_2) (ji36)) - 97) % 256))) (fun _ hk => hk.2) (.int .i64 mv)) (fun _ hk => hk.1))); (case aS => exact (bZ_ (by repeat (first | (with_reducible first | exact HB.out | apply bA_ | apply bN_ | apply bD_ | refine bS_ ?_ GE333.out | refine bS_ ?_ GE344.out | refine bS_ ?_ GE348.out) | exact HB.out)))); (case aL => have := LMc42.out; omega); intro v353 w54 ho hb hg hat; rw [← Ny352.out] at ho; have n0_ := aM_ (Kd.R_over' (by exact (kM_ (kF_ (p := ⟨gb348, 1, none⟩) (kF_ (p := ⟨gb348, 0, none⟩) (kT_ HO_39.out BK348.out (by decide)) (fun _ hk => hk.2) (.int .i64 (((bt (rdOf eB_ t341 x41_2) (ji36)) - 97) % 256))) (fun _ hk => hk.2) (.int .i64 mv)) (fun _ h_ => h_.1))) (Kd.R_typed (by exact (kM_ (kF_ (p := ⟨gb348, 1, none⟩) (kF_ (p := ⟨gb348, 0, none⟩) (kM_ HO_345000.out (fun k_ hk => (⟨hk, hk⟩ : _ ∧ k_ ≠ gb348))) (fun _ hk => hk.2) (.int .i64 (((bt (rdOf eB_ t341 x41_2) (ji36)) - 97) % 256))) (fun _ hk => hk.2) (.int .i64 mv)) (fun _ h_ => h_.1)))) (by decide) hg); have n1_ := aM_ (blk_grown (g := gb333) (o := .cells #[.slice none 0 0] 36 (0, 0)) (by refine bR_ ?_ NB333_348.out _; refine bR_ ?_ NB333_348.out _; exact BK333.out) hg (k6_ HO_345000.out BK333.out (by decide))); have n19_ := aM_ (SM.Is.grown (l := lm2) (by (with_reducible repeat (first | refine SM.Is.drewN ?_ _ | refine SM.Is.drew ?_ | refine SM.Is.alloc ?_ _)); refine SM.Is.far ?_ NBM_348.out _; (with_reducible repeat (first | refine SM.Is.drewN ?_ _ | refine SM.Is.drew ?_ | refine SM.Is.alloc ?_ _)); refine SM.Is.far ?_ NBM_348.out _; (with_reducible repeat (first | refine SM.Is.drewN ?_ _ | refine SM.Is.drew ?_ | refine SM.Is.alloc ?_ _)); exact BKM.out) hg (SM.Is.ne BKM.out HO_345000.out)); have n2_ := aM_ (blk_grown (g := gb344) (o := .cells #[u345000] 36 (0, 0)) (by refine bR_ ?_ NB344_348.out _; refine bR_ ?_ NB344_348.out _; exact BK344.out) hg (k6_ HO_345000.out BK344.out (by decide))); have n3_ := aM_ (blk_grown (g := gb348) (o := .cells #[.int .i64 (((bt (rdOf eB_ t341 x41_2) (ji36)) - 97) % 256), .int .i64 mv, .bool t347] 76 (0, 0)) (by refine bP_ (cs := #[.int .i64 (((bt (rdOf eB_ t341 x41_2) (ji36)) - 97) % 256), .int .i64 (-1), .bool t347]) ?_ 1 _ rfl; refine bP_ (cs := #[.int .i64 (-1), .int .i64 (-1), .bool t347]) ?_ 0 _ rfl; exact BK348.out) hg (Kd.R_away HO_345000.out (fun _ hk => hk))); have n4_ := aM_ (hb); have n5_ := aM_ (ho); clear HO_39; clear BKM; clear BK333; clear BK344; clear BK348; clear HB; clear HO_345000; have HO_39 := n0_; have BK333 := n1_; have BKM := n19_; have BK344 := n2_; have BK348 := n3_; have HB := n4_; have HO354 := n5_; clear n0_ n1_ n2_ n3_ n4_ n5_ n19_; clear ho hb hg hat; obtain ⟨Ao55, co55, eo55⟩ := kS_ HO354.out; subst eo55; have hcz56_0 : w54.cell? ⟨gb344, 0, none⟩ = some (u345000) := (bC_ BK344.out 0).trans rfl; have hfz56_0 := bF_ BK344.out 0))
              go_roundg k2
              case measure => have := HK1.out; have := HK2.out; omega
              case rel => exact ⟨(wrap64 (x41_2 + 1)), (y352), (.slice Ao55 y352.length co55), (by rfl), H', ⟨by have := HK1.out; have := HK2.out; omega⟩, ⟨by exact kM_ (kF_ (p := ⟨gb344, 0, none⟩) (kT_ HO_39.out BK344.out (by decide)) (fun _ hk => hk.2) (.slice Ao55 y352.length co55)) (fun _ hk => trivial)⟩, ⟨by exact kM_ (kF_ (p := ⟨gb344, 0, none⟩) (kT_ HO354.out BK344.out (by decide)) (fun _ hk => hk.2) (.slice Ao55 y352.length co55)) (fun _ hk => trivial)⟩, ⟨by refine bR_ ?_ NB333_344.out _; exact BK333.out⟩, ⟨by refine bP_ (cs := #[u345000]) ?_ 0 _ rfl; exact BK344.out⟩, ⟨by repeat (first | (with_reducible first | exact HB.out | apply bA_ | apply bN_ | apply bD_ | refine bS_ ?_ GE333.out | refine bS_ ?_ GE344.out | refine bS_ ?_ GE348.out) | exact HB.out)⟩, ⟨by rw [SM.next_rd t341 x41_2 lm2 HLM2.out HLN.out HLL.out HLL2.out HSZ.out]; (with_reducible repeat (first | refine SM.Is.drewN ?_ _ | refine SM.Is.drew ?_ | refine SM.Is.alloc ?_ _)); refine SM.Is.far ?_ NBM_344.out _; (with_reducible repeat (first | refine SM.Is.drewN ?_ _ | refine SM.Is.drew ?_ | refine SM.Is.alloc ?_ _)); exact BKM.out⟩⟩
             ·
              rw [if_neg c42] at H
              exact absurd H (by simp)
            ·
             rw [if_neg c41] at H
             exact absurd H (by simp)
           ·
            rw [if_neg c38] at H
            exact absurd H (by simp)
          ·
           rw [if_neg c37] at H
           exact absurd H (by simp)
        ·
         rw [if_neg c23] at H
         exact absurd H (by simp)
       ·
        rw [if_neg c22] at H
        exact absurd H (by simp)
      ·
       rw [if_neg c21] at H
       have c21b0 := decide_eq_false c21
       clear c21
       obtain rfl := Option.some.inj H
       have hnb57 := NB344_333.out
       have hnc57 := NB333_344.out
       have hcz58_0 : wr.cell? ⟨gb344, 0, none⟩ = some (u345000) := (bC_ BK344.out 0).trans rfl
       have hfz58_0 := bF_ BK344.out 0
       obtain ⟨Ao59, co59, eo59⟩ := kS_ HO_345000.out
       subst eo59
       have hcz60_0 : wr.cell? ⟨gb333, 0, none⟩ = some (.slice none 0 0) := (bC_ BK333.out 0).trans rfl
       have hfz60_0 := bF_ BK333.out 0
       go_wp2
       refine bodyPost_ret (results_cell_row rfl _ _ gb333 36 #[.slice Ao59 x345000_2.length co59] (0, 0) _ rfl (by refine bP_ (cs := #[.slice none 0 0]) ?_ 0 _ rfl; exact BK333.out) Tryz.underlying36 rfl (by kernel_rfl)) rfl ?_
       exact ⟨_, by rfl, by exact kM_ (kF_ (p := ⟨gb333, 0, none⟩) (kT_ HO_345000.out BK333.out (by decide)) (fun _ hk => hk.2) (.slice Ao59 x345000_2.length co59)) (fun _ hk => trivial), by repeat (first | (with_reducible first | exact HB.out | apply bA_ | apply bN_ | apply bD_ | refine bS_ ?_ GE333.out | refine bS_ ?_ GE344.out) | exact HB.out)⟩
end Go.Proofs.YtfhffcefpnkllaaGreatDoor.P
