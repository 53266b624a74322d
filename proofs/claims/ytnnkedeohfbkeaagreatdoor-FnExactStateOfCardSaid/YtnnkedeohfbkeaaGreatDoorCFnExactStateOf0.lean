/-
  Part 1 of the proof that FnExactStateOf returns true for every input: the functions that it reaches, each with its contract, and the law.
  Conditions: those of the given statement, no others.
-/
import Derived.Test.YtnnkedeohfbkeaaGreatDoorCFnExactStateOfW0
import Derived.Test.YtnnkedeohfbkeaaGreatDoorProg
import Derived.Below
import Derived.Deep.Draws
import Derived.Deep.AppendLies
import Derived.Maps.AppendAt
import Derived.OwnWalk
import Derived.Laws.BytesArg
import Derived.Laws.MakeOwn
import Derived.Laws.OwnMore
import Derived.Deep.OwnRows
import Derived.Tactics
import Derived.Lib.ConvBytes
import Derived.Laws.Slices
import Derived.WalkKit
import Derived.KernelRfl
import Derived.RowKit3
import Derived.Deep.LoopGhost
import Derived.Deep.QuietTactic
import Derived.BigQuiet
import Derived.WideLaws
import Derived.Deep.DeepCutAuto
import Derived.Deep.CutBlock
import Derived.Deep.RegionHeld3
import Derived.Laws.Rows
import Derived.Lib.AppendStr
import Derived.ArgAppend
import Derived.Laws.IdiomCopy
import Derived.OrdersHeld
import Derived.Laws.BitsLemmas
import Derived.RowKit
import Derived.Shelf.Abstract
set_option linter.unusedVariables false
set_option linter.unusedSimpArgs false
set_option maxHeartbeats 8000000
set_option maxRecDepth 100000
namespace Go.Proofs.YtnnkedeohfbkeaaGreatDoor.P
open Go.RowKit Go.Proofs.YtnnkedeohfbkeaaGreatDoorW.PrintWords Go.Proofs.YtnnkedeohfbkeaaGreatDoorW.PrintLast Go.Proofs.YtnnkedeohfbkeaaGreatDoorW.PrintMore
attribute [local go_sem] max2_int min2_int max_two min_two max_three min_three max_four min_four
def errW : Option Int → Value
  | none => .nilIface
  | some c => .iface 0 (.int .i64 c)
theorem errW_none : errW none = .nilIface := rfl
theorem errW_some (c : Int) : errW (some c) = .iface 0 (.int .i64 c) := rfl
theorem info3 : (Tryz.prog.info? 3).map (fun i => (i.zero, i.size, i.bytes)) = some (some (.int .i64 0), 1, 8) := by kernel_rfl
theorem info5 : (Tryz.prog.info? 5).map (fun i => (i.zero, i.size, i.bytes)) = some (some (.int .u8 0), 1, 1) := by kernel_rfl
theorem info9 : (Tryz.prog.info? 9).map (fun i => (i.zero, i.size, i.bytes)) = some (some (.string ⟨#[]⟩), 1, 16) := by kernel_rfl
theorem info56 : (Tryz.prog.info? 56).map (fun i => (i.zero, i.size, i.bytes)) = some (some (.slice none 0 0), 1, 24) := by kernel_rfl
theorem info72 : (Tryz.prog.info? 72).map (fun i => (i.zero, i.size, i.bytes)) = some (some (.agg #[(.bool false), (.slice none 0 0)]), 2, 32) := by kernel_rfl
theorem info88 : (Tryz.prog.info? 88).map (fun i => (i.zero, i.size, i.bytes)) = some (some (.agg #[(.int .i64 0), (.int .i64 0)]), 2, 16) := by kernel_rfl
theorem info96 : (Tryz.prog.info? 96).map (fun i => (i.zero, i.size, i.bytes)) = some (some (.agg #[(.int .i64 0), (.int .i64 0), (.bool false)]), 3, 24) := by kernel_rfl
structure S88 where
  f0 : Int
  f1 : Int
def z88 : S88 := ⟨(0 : Int), (0 : Int)⟩
def k88 : Kd S88 := Kd.iso (Kd.pair (Kd.int .i64) (Kd.int .i64)) (fun x : S88 => (x.f0, x.f1))
theorem k88_open {w : World} {x : S88} {cs : List Value} (h : k88.K w x cs) : cs = [.int .i64 x.f0, .int .i64 x.f1] := by
  obtain ⟨_, _, rfl, rfl, rfl⟩ := h
  exact rfl
theorem k88_openM {w : World} {base : Nat} {ok : Nat → Prop} {x : S88} {cs : List Value} (h : k88.M w base ok x cs) : cs = [.int .i64 x.f0, .int .i64 x.f1] := by
  obtain ⟨_, _, rfl, rfl, rfl⟩ := h
  exact rfl
theorem k88_mk (w : World) (x : S88)  : k88.K w x [.int .i64 x.f0, .int .i64 x.f1] := ⟨[.int .i64 x.f0], [.int .i64 x.f1], rfl, rfl, rfl⟩
theorem k88_mkM (w : World) (base : Nat) (ok : Nat → Prop) (x : S88)  : k88.M w base ok x [.int .i64 x.f0, .int .i64 x.f1] := ⟨[.int .i64 x.f0], [.int .i64 x.f1], rfl, rfl, rfl⟩
def rd_T88 (xs : List S88) (i : Int) : S88 := xs.getD i.toNat z88
theorem at_T88 {w : World} {A : Option Addr} {n : Nat} {xs : List S88} (h : Kd.C k88 w A n xs) (i : Int) (h0 : 0 ≤ i) (h1 : i < n) : ∃ ad , A = some ad ∧ w.cell? (ad.add (i.toNat * 2)) = some (.int .i64 (rd_T88 xs i).f0) ∧ w.cell? ⟨(ad.add (i.toNat * 2)).block, (ad.add (i.toNat * 2)).off + 1, none⟩ = some (.int .i64 (rd_T88 xs i).f1) := by
  obtain ⟨ad, c, e, _, hK, hc0⟩ := Kd.C_get h z88 i h0 h1
  have hc : ∀ j u, c[j]? = some u → w.cell? (ad.add (i.toNat * 2 + j)) = some u := hc0
  obtain rfl := k88_open hK
  exact ⟨ad, e, hc 0 _ rfl, by rw [← add_field _ _ 1 (by omega)]; exact hc 1 _ rfl⟩
def rd_L3 (xs : List (List S88)) (i : Int) : (List S88) := xs.getD i.toNat ([] : List S88)
theorem at_L3 {w : World} {A : Option Addr} {n : Nat} {xs : List (List S88)} (h : Kd.C (Kd.slice 88 k88) w A n xs) (i : Int) (h0 : 0 ≤ i) (h1 : i < n) : ∃ ad A0 c0, A = some ad ∧ w.cell? (ad.add i.toNat) = some (.slice A0 (rd_L3 xs i).length c0) ∧ (rd_L3 xs i).length ≤ c0 ∧ k88.C w A0 (rd_L3 xs i).length (rd_L3 xs i) := by
  obtain ⟨ad, c, e, _, hK, hc0⟩ := Kd.C_get h ([] : List S88) i h0 h1
  have hc : ∀ j u, c[j]? = some u → w.cell? (ad.add (i.toNat * 1 + j)) = some u := hc0
  obtain ⟨A0, c0, rfl, l0, g0⟩ := hK
  exact ⟨ad, A0, c0, e, by have hq := hc 0 _ rfl; rwa [Nat.mul_one, Nat.add_zero] at hq, l0, g0⟩
structure S90 where
  f0 : Bool
  f1 : (List S88)
def z90 : S90 := ⟨false, ([] : List S88)⟩
def k90 : Kd S90 := Kd.iso (Kd.pair Kd.bool (Kd.slice 88 k88)) (fun x : S90 => (x.f0, x.f1))
theorem k90_open {w : World} {x : S90} {cs : List Value} (h : k90.K w x cs) : ∃ A1 c1, cs = [.bool x.f0, .slice A1 x.f1.length c1] ∧ x.f1.length ≤ c1 ∧ k88.C w A1 x.f1.length x.f1 := by
  obtain ⟨_, _, rfl, rfl, ⟨A1, c1, rfl, l1, g1⟩⟩ := h
  exact ⟨A1, c1, rfl, l1, g1⟩
theorem k90_openM {w : World} {base : Nat} {ok : Nat → Prop} {x : S90} {cs : List Value} (h : k90.M w base ok x cs) : ∃ v1, cs = [.bool x.f0, v1] ∧ k88.R 88 w base ok v1 x.f1 := by
  obtain ⟨_, _, rfl, rfl, ⟨v1, rfl, g1⟩⟩ := h
  exact ⟨v1, rfl, g1⟩
theorem k90_mk (w : World) (x : S90) {A1 : Option Addr} {c1 : Nat} (l1 : x.f1.length ≤ c1) (g1 : k88.C w A1 x.f1.length x.f1) : k90.K w x [.bool x.f0, .slice A1 x.f1.length c1] := ⟨[.bool x.f0], [.slice A1 x.f1.length c1], rfl, rfl, ⟨A1, c1, rfl, l1, g1⟩⟩
theorem k90_mkM (w : World) (base : Nat) (ok : Nat → Prop) (x : S90) {v1 : Value} (g1 : k88.R 88 w base ok v1 x.f1) : k90.M w base ok x [.bool x.f0, v1] := ⟨[.bool x.f0], [v1], rfl, rfl, ⟨v1, rfl, g1⟩⟩
def rd_T90 (xs : List S90) (i : Int) : S90 := xs.getD i.toNat z90
theorem at_T90 {w : World} {A : Option Addr} {n : Nat} {xs : List S90} (h : Kd.C k90 w A n xs) (i : Int) (h0 : 0 ≤ i) (h1 : i < n) : ∃ ad A1 c1, A = some ad ∧ w.cell? (ad.add (i.toNat * 2)) = some (.bool (rd_T90 xs i).f0) ∧ w.cell? ⟨(ad.add (i.toNat * 2)).block, (ad.add (i.toNat * 2)).off + 1, none⟩ = some (.slice A1 (rd_T90 xs i).f1.length c1) ∧ (rd_T90 xs i).f1.length ≤ c1 ∧ k88.C w A1 (rd_T90 xs i).f1.length (rd_T90 xs i).f1 := by
  obtain ⟨ad, c, e, _, hK, hc0⟩ := Kd.C_get h z90 i h0 h1
  have hc : ∀ j u, c[j]? = some u → w.cell? (ad.add (i.toNat * 2 + j)) = some u := hc0
  obtain ⟨A1, c1, rfl, l1, g1⟩ := k90_open hK
  exact ⟨ad, A1, c1, e, hc 0 _ rfl, by rw [← add_field _ _ 1 (by omega)]; exact hc 1 _ rfl, l1, g1⟩
def rd_L6 (xs : List (List ByteArray)) (i : Int) : (List ByteArray) := xs.getD i.toNat ([] : List ByteArray)
theorem at_L6 {w : World} {A : Option Addr} {n : Nat} {xs : List (List ByteArray)} (h : Kd.C (Kd.slice 9 Kd.string) w A n xs) (i : Int) (h0 : 0 ≤ i) (h1 : i < n) : ∃ ad A0 c0, A = some ad ∧ w.cell? (ad.add i.toNat) = some (.slice A0 (rd_L6 xs i).length c0) ∧ (rd_L6 xs i).length ≤ c0 ∧ Kd.string.C w A0 (rd_L6 xs i).length (rd_L6 xs i) := by
  obtain ⟨ad, c, e, _, hK, hc0⟩ := Kd.C_get h ([] : List ByteArray) i h0 h1
  have hc : ∀ j u, c[j]? = some u → w.cell? (ad.add (i.toNat * 1 + j)) = some u := hc0
  obtain ⟨A0, c0, rfl, l0, g0⟩ := hK
  exact ⟨ad, A0, c0, e, by have hq := hc 0 _ rfl; rwa [Nat.mul_one, Nat.add_zero] at hq, l0, g0⟩
structure S96 where
  f0 : Int
  f1 : Int
  f2 : Bool
def z96 : S96 := ⟨(0 : Int), (0 : Int), false⟩
def k96 : Kd S96 := Kd.iso (Kd.pair (Kd.int .i64) (Kd.pair (Kd.int .i64) Kd.bool)) (fun x : S96 => (x.f0, x.f1, x.f2))
theorem k96_open {w : World} {x : S96} {cs : List Value} (h : k96.K w x cs) : cs = [.int .i64 x.f0, .int .i64 x.f1, .bool x.f2] := by
  obtain ⟨_, _, rfl, rfl, ⟨_, _, rfl, rfl, rfl⟩⟩ := h
  exact rfl
theorem k96_openM {w : World} {base : Nat} {ok : Nat → Prop} {x : S96} {cs : List Value} (h : k96.M w base ok x cs) : cs = [.int .i64 x.f0, .int .i64 x.f1, .bool x.f2] := by
  obtain ⟨_, _, rfl, rfl, ⟨_, _, rfl, rfl, rfl⟩⟩ := h
  exact rfl
theorem k96_mk (w : World) (x : S96)  : k96.K w x [.int .i64 x.f0, .int .i64 x.f1, .bool x.f2] := ⟨[.int .i64 x.f0], [.int .i64 x.f1, .bool x.f2], rfl, rfl, ⟨[.int .i64 x.f1], [.bool x.f2], rfl, rfl, rfl⟩⟩
theorem k96_mkM (w : World) (base : Nat) (ok : Nat → Prop) (x : S96)  : k96.M w base ok x [.int .i64 x.f0, .int .i64 x.f1, .bool x.f2] := ⟨[.int .i64 x.f0], [.int .i64 x.f1, .bool x.f2], rfl, rfl, ⟨[.int .i64 x.f1], [.bool x.f2], rfl, rfl, rfl⟩⟩
def rd_T96 (xs : List S96) (i : Int) : S96 := xs.getD i.toNat z96
theorem at_T96 {w : World} {A : Option Addr} {n : Nat} {xs : List S96} (h : Kd.C k96 w A n xs) (i : Int) (h0 : 0 ≤ i) (h1 : i < n) : ∃ ad , A = some ad ∧ w.cell? (ad.add (i.toNat * 3)) = some (.int .i64 (rd_T96 xs i).f0) ∧ w.cell? ⟨(ad.add (i.toNat * 3)).block, (ad.add (i.toNat * 3)).off + 1, none⟩ = some (.int .i64 (rd_T96 xs i).f1) ∧ w.cell? ⟨(ad.add (i.toNat * 3)).block, (ad.add (i.toNat * 3)).off + 2, none⟩ = some (.bool (rd_T96 xs i).f2) := by
  obtain ⟨ad, c, e, _, hK, hc0⟩ := Kd.C_get h z96 i h0 h1
  have hc : ∀ j u, c[j]? = some u → w.cell? (ad.add (i.toNat * 3 + j)) = some u := hc0
  obtain rfl := k96_open hK
  exact ⟨ad, e, hc 0 _ rfl, by rw [← add_field _ _ 1 (by omega)]; exact hc 1 _ rfl, by rw [← add_field _ _ 2 (by omega)]; exact hc 2 _ rfl⟩
structure S72 where
  f0 : Bool
  f1 : (List S88)
def z72 : S72 := ⟨false, ([] : List S88)⟩
def k72 : Kd S72 := Kd.iso (Kd.pair Kd.bool (Kd.slice 88 k88)) (fun x : S72 => (x.f0, x.f1))
theorem k72_open {w : World} {x : S72} {cs : List Value} (h : k72.K w x cs) : ∃ A1 c1, cs = [.bool x.f0, .slice A1 x.f1.length c1] ∧ x.f1.length ≤ c1 ∧ k88.C w A1 x.f1.length x.f1 := by
  obtain ⟨_, _, rfl, rfl, ⟨A1, c1, rfl, l1, g1⟩⟩ := h
  exact ⟨A1, c1, rfl, l1, g1⟩
theorem k72_openM {w : World} {base : Nat} {ok : Nat → Prop} {x : S72} {cs : List Value} (h : k72.M w base ok x cs) : ∃ v1, cs = [.bool x.f0, v1] ∧ k88.R 88 w base ok v1 x.f1 := by
  obtain ⟨_, _, rfl, rfl, ⟨v1, rfl, g1⟩⟩ := h
  exact ⟨v1, rfl, g1⟩
theorem k72_mk (w : World) (x : S72) {A1 : Option Addr} {c1 : Nat} (l1 : x.f1.length ≤ c1) (g1 : k88.C w A1 x.f1.length x.f1) : k72.K w x [.bool x.f0, .slice A1 x.f1.length c1] := ⟨[.bool x.f0], [.slice A1 x.f1.length c1], rfl, rfl, ⟨A1, c1, rfl, l1, g1⟩⟩
theorem k72_mkM (w : World) (base : Nat) (ok : Nat → Prop) (x : S72) {v1 : Value} (g1 : k88.R 88 w base ok v1 x.f1) : k72.M w base ok x [.bool x.f0, v1] := ⟨[.bool x.f0], [v1], rfl, rfl, ⟨v1, rfl, g1⟩⟩
def rd_T72 (xs : List S72) (i : Int) : S72 := xs.getD i.toNat z72
theorem at_T72 {w : World} {A : Option Addr} {n : Nat} {xs : List S72} (h : Kd.C k72 w A n xs) (i : Int) (h0 : 0 ≤ i) (h1 : i < n) : ∃ ad A1 c1, A = some ad ∧ w.cell? (ad.add (i.toNat * 2)) = some (.bool (rd_T72 xs i).f0) ∧ w.cell? ⟨(ad.add (i.toNat * 2)).block, (ad.add (i.toNat * 2)).off + 1, none⟩ = some (.slice A1 (rd_T72 xs i).f1.length c1) ∧ (rd_T72 xs i).f1.length ≤ c1 ∧ k88.C w A1 (rd_T72 xs i).f1.length (rd_T72 xs i).f1 := by
  obtain ⟨ad, c, e, _, hK, hc0⟩ := Kd.C_get h z72 i h0 h1
  have hc : ∀ j u, c[j]? = some u → w.cell? (ad.add (i.toNat * 2 + j)) = some u := hc0
  obtain ⟨A1, c1, rfl, l1, g1⟩ := k72_open hK
  exact ⟨ad, A1, c1, e, hc 0 _ rfl, by rw [← add_field _ _ 1 (by omega)]; exact hc 1 _ rfl, l1, g1⟩
def rd_L10 (xs : List (List Int)) (i : Int) : (List Int) := xs.getD i.toNat ([] : List Int)
theorem at_L10 {w : World} {A : Option Addr} {n : Nat} {xs : List (List Int)} (h : Kd.C (Kd.slice 3 (Kd.int .i64)) w A n xs) (i : Int) (h0 : 0 ≤ i) (h1 : i < n) : ∃ ad A0 c0, A = some ad ∧ w.cell? (ad.add i.toNat) = some (.slice A0 (rd_L10 xs i).length c0) ∧ (rd_L10 xs i).length ≤ c0 ∧ (Kd.int .i64).C w A0 (rd_L10 xs i).length (rd_L10 xs i) := by
  obtain ⟨ad, c, e, _, hK, hc0⟩ := Kd.C_get h ([] : List Int) i h0 h1
  have hc : ∀ j u, c[j]? = some u → w.cell? (ad.add (i.toNat * 1 + j)) = some u := hc0
  obtain ⟨A0, c0, rfl, l0, g0⟩ := hK
  exact ⟨ad, A0, c0, e, by have hq := hc 0 _ rfl; rwa [Nat.mul_one, Nat.add_zero] at hq, l0, g0⟩
def rd_L11 (xs : List (List S96)) (i : Int) : (List S96) := xs.getD i.toNat ([] : List S96)
theorem at_L11 {w : World} {A : Option Addr} {n : Nat} {xs : List (List S96)} (h : Kd.C (Kd.slice 96 k96) w A n xs) (i : Int) (h0 : 0 ≤ i) (h1 : i < n) : ∃ ad A0 c0, A = some ad ∧ w.cell? (ad.add i.toNat) = some (.slice A0 (rd_L11 xs i).length c0) ∧ (rd_L11 xs i).length ≤ c0 ∧ k96.C w A0 (rd_L11 xs i).length (rd_L11 xs i) := by
  obtain ⟨ad, c, e, _, hK, hc0⟩ := Kd.C_get h ([] : List S96) i h0 h1
  have hc : ∀ j u, c[j]? = some u → w.cell? (ad.add (i.toNat * 1 + j)) = some u := hc0
  obtain ⟨A0, c0, rfl, l0, g0⟩ := hK
  exact ⟨ad, A0, c0, e, by have hq := hc 0 _ rfl; rwa [Nat.mul_one, Nat.add_zero] at hq, l0, g0⟩
structure S28 where
  f0 : (List S96)
def z28 : S28 := ⟨([] : List S96)⟩
def k28 : Kd S28 := Kd.iso (Kd.slice 96 k96) (fun x : S28 => x.f0)
theorem k28_open {w : World} {x : S28} {cs : List Value} (h : k28.K w x cs) : ∃ A0 c0, cs = [.slice A0 x.f0.length c0] ∧ x.f0.length ≤ c0 ∧ k96.C w A0 x.f0.length x.f0 := by
  obtain ⟨A0, c0, rfl, l0, g0⟩ := h
  exact ⟨A0, c0, rfl, l0, g0⟩
theorem k28_openM {w : World} {base : Nat} {ok : Nat → Prop} {x : S28} {cs : List Value} (h : k28.M w base ok x cs) : ∃ v0, cs = [v0] ∧ k96.R 96 w base ok v0 x.f0 := by
  obtain ⟨v0, rfl, g0⟩ := h
  exact ⟨v0, rfl, g0⟩
theorem k28_mk (w : World) (x : S28) {A0 : Option Addr} {c0 : Nat} (l0 : x.f0.length ≤ c0) (g0 : k96.C w A0 x.f0.length x.f0) : k28.K w x [.slice A0 x.f0.length c0] := ⟨A0, c0, rfl, l0, g0⟩
theorem k28_mkM (w : World) (base : Nat) (ok : Nat → Prop) (x : S28) {v0 : Value} (g0 : k96.R 96 w base ok v0 x.f0) : k28.M w base ok x [v0] := ⟨v0, rfl, g0⟩
def rd_T28 (xs : List S28) (i : Int) : S28 := xs.getD i.toNat z28
theorem at_T28 {w : World} {A : Option Addr} {n : Nat} {xs : List S28} (h : Kd.C k28 w A n xs) (i : Int) (h0 : 0 ≤ i) (h1 : i < n) : ∃ ad A0 c0, A = some ad ∧ w.cell? (ad.add i.toNat) = some (.slice A0 (rd_T28 xs i).f0.length c0) ∧ (rd_T28 xs i).f0.length ≤ c0 ∧ k96.C w A0 (rd_T28 xs i).f0.length (rd_T28 xs i).f0 := by
  obtain ⟨ad, c, e, _, hK, hc0⟩ := Kd.C_get h z28 i h0 h1
  have hc : ∀ j u, c[j]? = some u → w.cell? (ad.add (i.toNat * 1 + j)) = some u := hc0
  obtain ⟨A0, c0, rfl, l0, g0⟩ := k28_open hK
  exact ⟨ad, A0, c0, e, by have hq := hc 0 _ rfl; rwa [Nat.mul_one, Nat.add_zero] at hq, l0, g0⟩
def rd_L13 (xs : List (List S72)) (i : Int) : (List S72) := xs.getD i.toNat ([] : List S72)
theorem at_L13 {w : World} {A : Option Addr} {n : Nat} {xs : List (List S72)} (h : Kd.C (Kd.slice 72 k72) w A n xs) (i : Int) (h0 : 0 ≤ i) (h1 : i < n) : ∃ ad A0 c0, A = some ad ∧ w.cell? (ad.add i.toNat) = some (.slice A0 (rd_L13 xs i).length c0) ∧ (rd_L13 xs i).length ≤ c0 ∧ k72.C w A0 (rd_L13 xs i).length (rd_L13 xs i) := by
  obtain ⟨ad, c, e, _, hK, hc0⟩ := Kd.C_get h ([] : List S72) i h0 h1
  have hc : ∀ j u, c[j]? = some u → w.cell? (ad.add (i.toNat * 1 + j)) = some u := hc0
  obtain ⟨A0, c0, rfl, l0, g0⟩ := hK
  exact ⟨ad, A0, c0, e, by have hq := hc 0 _ rfl; rwa [Nat.mul_one, Nat.add_zero] at hq, l0, g0⟩
structure S33 where
  f0 : (List S72)
def z33 : S33 := ⟨([] : List S72)⟩
def k33 : Kd S33 := Kd.iso (Kd.slice 72 k72) (fun x : S33 => x.f0)
theorem k33_open {w : World} {x : S33} {cs : List Value} (h : k33.K w x cs) : ∃ A0 c0, cs = [.slice A0 x.f0.length c0] ∧ x.f0.length ≤ c0 ∧ k72.C w A0 x.f0.length x.f0 := by
  obtain ⟨A0, c0, rfl, l0, g0⟩ := h
  exact ⟨A0, c0, rfl, l0, g0⟩
theorem k33_openM {w : World} {base : Nat} {ok : Nat → Prop} {x : S33} {cs : List Value} (h : k33.M w base ok x cs) : ∃ v0, cs = [v0] ∧ k72.R 72 w base ok v0 x.f0 := by
  obtain ⟨v0, rfl, g0⟩ := h
  exact ⟨v0, rfl, g0⟩
theorem k33_mk (w : World) (x : S33) {A0 : Option Addr} {c0 : Nat} (l0 : x.f0.length ≤ c0) (g0 : k72.C w A0 x.f0.length x.f0) : k33.K w x [.slice A0 x.f0.length c0] := ⟨A0, c0, rfl, l0, g0⟩
theorem k33_mkM (w : World) (base : Nat) (ok : Nat → Prop) (x : S33) {v0 : Value} (g0 : k72.R 72 w base ok v0 x.f0) : k33.M w base ok x [v0] := ⟨v0, rfl, g0⟩
def rd_T33 (xs : List S33) (i : Int) : S33 := xs.getD i.toNat z33
theorem at_T33 {w : World} {A : Option Addr} {n : Nat} {xs : List S33} (h : Kd.C k33 w A n xs) (i : Int) (h0 : 0 ≤ i) (h1 : i < n) : ∃ ad A0 c0, A = some ad ∧ w.cell? (ad.add i.toNat) = some (.slice A0 (rd_T33 xs i).f0.length c0) ∧ (rd_T33 xs i).f0.length ≤ c0 ∧ k72.C w A0 (rd_T33 xs i).f0.length (rd_T33 xs i).f0 := by
  obtain ⟨ad, c, e, _, hK, hc0⟩ := Kd.C_get h z33 i h0 h1
  have hc : ∀ j u, c[j]? = some u → w.cell? (ad.add (i.toNat * 1 + j)) = some u := hc0
  obtain ⟨A0, c0, rfl, l0, g0⟩ := k33_open hK
  exact ⟨ad, A0, c0, e, by have hq := hc 0 _ rfl; rwa [Nat.mul_one, Nat.add_zero] at hq, l0, g0⟩
end Go.Proofs.YtnnkedeohfbkeaaGreatDoor.P
namespace Go.Proofs.YtnnkedeohfbkeaaGreatDoor.P
open Go.RowKit Go.Proofs.YtnnkedeohfbkeaaGreatDoorW.PrintWords Go.Proofs.YtnnkedeohfbkeaaGreatDoorW.PrintLast Go.Proofs.YtnnkedeohfbkeaaGreatDoorW.PrintMore
open Go.Proofs.YtnnkedeohfbkeaaGreatDoorW.PrintWords renaming blk_frozen → bF_, blk_cell → bC_, below_set → bS_, blk_below → bB_, below_step → bT_, pw_below_drewN → bN_, below_size → bZ_, below_drew1 → bD_, below_alloc → bA_, blk_far → bR_, gate_callee → gC_, gate_dst → gD_, box_event → bE_, blk_drew → b1_, blk_put → bP_, blk_drewN → b2_, blk_alloc → b3_, blk_lt → bL_, cell_far → cF_
open Go.Proofs.YtnnkedeohfbkeaaGreatDoorW.PrintLast renaming any_of → aO_, i64_w → i6_, i32_w → i3_, take_ofW → tW_
open Go.Proofs.YtnnkedeohfbkeaaGreatDoorW.PrintWords.Kd renaming R_below → kB_, R_mono → kM_, R_far → kF_, R_reads' → kR_, R_types → kT_, R_slice → kS_, R_celln → kC_, R_alloc → k1_, R_drewN → k2_, R_drew → k3_, C_below → k4_, R_lower → k5_, R_ne → k6_, own_blk → k7_
open Go.Proofs.YtnnkedeohfbkeaaGreatDoorW.PrintWords.LeO renaming none → l0_, bind → l1_, ite → l2_, refl → l3_
open World renaming block_lt_of_cell? → wB_
open _root_.Option renaming bind_eq_some_iff → oB_
open _root_.ByteArray renaming empty → eB_
open List renaming setIfInBounds_toArray → sA_, set_cons_zero → sB_, set_cons_succ → sC_, map_toArray → sD_, map_cons → sE_, map_nil → sF_, length_drop → sG_, length_take → sH_
open Bool renaming true → ty, false → fy
open Aside0 renaming mk → aM_
attribute [local go_sem] max2_int min2_int max_two min_two max_three min_three max_four min_four
def wF38.f (l0 : List (S88)) (a1 : Int) : Option (Int) := if (wrap64 (a1 - (l0.length : Int))) < 0 then (some (-1)) else (some (wrap64 (a1 - (l0.length : Int))))
theorem wF38.calls (A0 : Option Addr) (c0 : Nat) (l0 : List (S88)) (a1 : Int) (r : Int) (w : World) (hr0 : Kd.C k88 w A0 l0.length l0) (hc0 : l0.length ≤ c0) (h : wF38.f l0 a1 = some r) :
  Calls Tryz.prog 100 #[.slice A0 l0.length c0, .int .i64 a1] w fun e w' => e = .returned (.int .i64 r) ∧ Drawn0 w w' := by
 have HR0 := aM_ hr0
 have HC0 := aM_ hc0
 clear hr0 hc0
 have H : (if (wrap64 (a1 - (l0.length : Int))) < 0 then (some (-1)) else (some (wrap64 (a1 - (l0.length : Int))))) = some r := h
 clear h
 by_cases c3 : (wrap64 (a1 - (l0.length : Int))) < 0
 ·
  rw [if_pos c3] at H
  have c3b0 := dT_ c3
  clear c3
  obtain rfl := Option.some.inj H
  go_enter Tryz.func100, Tryz.ntmps100
  go_wp2
  go_ret
  exact ⟨by rfl, by repeat (first | exact Drawn0.refl _ | apply Drawn0.step)⟩
 rw [if_neg c3] at H
 have c3b0 := dF_ c3
 clear c3
 obtain rfl := Option.some.inj H
 go_enter Tryz.func100, Tryz.ntmps100
 go_wp2
 go_ret
 exact ⟨by rfl, by repeat (first | exact Drawn0.refl _ | apply Drawn0.step)⟩
def wF40.f (a0_0 : Bool) (l0_1 : List (S88)) (a1 : Int) : Option (Int) := (wF38.f l0_1 a1).bind fun t102 => (if t102 < 0 then (some (-1)) else (some t102))
theorem wF40.calls (a0_0 : Bool) (A0_1 : Option Addr) (c0_1 : Nat) (l0_1 : List (S88)) (a1 : Int) (r : Int) (w : World) (hr0_1 : Kd.C k88 w A0_1 l0_1.length l0_1) (hc0_1 : l0_1.length ≤ c0_1) (h : wF40.f a0_0 l0_1 a1 = some r) :
  Calls Tryz.prog 74 #[.agg #[.bool a0_0, .slice A0_1 l0_1.length c0_1], .int .i64 a1] w fun e w' => e = .returned (.int .i64 r) ∧ Below w.heap.size w w' := by
 have hu90 := Tryz.underlying90
 have HR0_1 := aM_ hr0_1
 have HC0_1 := aM_ hc0_1
 clear hr0_1 hc0_1
 have HB := aM_ (Below.refl w.heap.size w)
 have H : ((wF38.f l0_1 a1).bind fun t102 => (if t102 < 0 then (some (-1)) else (some t102))) = some r := h
 clear h
 replace H := oB_.mp H
 obtain ⟨t102, A30, H⟩ := H
 try dsimp only at H
 have A3 := aM_ A30
 clear A30
 by_cases c4 : t102 < 0
 ·
  rw [if_pos c4] at H
  have c4b0 := dT_ c4
  clear c4
  obtain rfl := Option.some.inj H
  go_enter Tryz.func74, Tryz.ntmps74
  go_wp2_with (first | (refine bx_ 2 #[.bool a0_0, .slice A0_1 l0_1.length c0_1] 90 ?_; intro gb101 hg w5 hbox hb; have BK101 := aM_ (hbox); have GW101 := gw_ hg HB; replace HB := b4_ HB hb; clear hb hbox hg; have hcz6_0 := c0_ BK101; have hcz6_1 := c1_ BK101; have hfz6_0 := bF_ BK101.out 0; have hfz6_1 := bF_ BK101.out 1) | (refine gs_ 8 Tryz.func100 #[.slice A0_1 l0_1.length c0_1, .int .i64 a1] ?_; (with_reducible refine (wF38.calls _ _ l0_1 a1 t102 _ ?side1 HC0_1.out A3.out).mono ?_); (case side1 => repeat (first | exact (k4_ HR0_1.out HB.out) | with_reducible first | apply cA_ | apply cN_ | apply cD_)); rintro e w' ⟨rfl, ⟨nd, rfl⟩⟩; refine ⟨_, rfl, ?_⟩))
  go_ret
  exact ⟨by rfl, by repeat with_reducible first | exact HB.out | apply bA_ | apply bN_ | apply bD_ | refine bS_ ?_ GW101.out⟩
 rw [if_neg c4] at H
 have c4b0 := dF_ c4
 clear c4
 obtain rfl := Option.some.inj H
 go_enter Tryz.func74, Tryz.ntmps74
 go_wp2_with (first | (refine bx_ 2 #[.bool a0_0, .slice A0_1 l0_1.length c0_1] 90 ?_; intro gb101 hg w7 hbox hb; have BK101 := aM_ (hbox); have GW101 := gw_ hg HB; replace HB := b4_ HB hb; clear hb hbox hg; have hcz8_0 := c0_ BK101; have hcz8_1 := c1_ BK101; have hfz8_0 := bF_ BK101.out 0; have hfz8_1 := bF_ BK101.out 1) | (refine gs_ 8 Tryz.func100 #[.slice A0_1 l0_1.length c0_1, .int .i64 a1] ?_; (with_reducible refine (wF38.calls _ _ l0_1 a1 t102 _ ?side1 HC0_1.out A3.out).mono ?_); (case side1 => repeat (first | exact (k4_ HR0_1.out HB.out) | with_reducible first | apply cA_ | apply cN_ | apply cD_)); rintro e w' ⟨rfl, ⟨nd, rfl⟩⟩; refine ⟨_, rfl, ?_⟩))
 go_ret
 exact ⟨by rfl, by repeat with_reducible first | exact HB.out | apply bA_ | apply bN_ | apply bD_ | refine bS_ ?_ GW101.out⟩
def wF41.l0 : Nat → List (S90) → Int → Int → Option (Int)
 | 0, _, _, _ => none
 | k + 1, x0, x1, x5 => if x5 < (x0.length : Int) then (if 0 ≤ x5 then ((wF40.f ((rd_T90 x0 x5).f0) ((rd_T90 x0 x5).f1) x1).bind fun t104 => (if t104 < 0 then (some (-1)) else (wF41.l0 k x0 t104 (wrap64 (x5 + 1))))) else (none)) else (some x1)
def wF41.f (k : Nat) (l0 : List (S90)) (a1 : Int) : Option (Int) := if (wrap64 (a1 - (l0.length : Int))) < 0 then (some (-1)) else (wF41.l0 k l0 (wrap64 (a1 - (l0.length : Int))) 0)
theorem wF41.mono_l : ∀ k, (∀ y0 y1 y2, LeO (wF41.l0 k y0 y1 y2) (wF41.l0 (k + 1) y0 y1 y2))
 | 0 => fun _ _ _ r h => by simp [wF41.l0] at h
 | k + 1 => by
  have ih0 := wF41.mono_l k
  intro y0 y1 y2
  unfold wF41.l0
  repeat' with_reducible first | exact ih0 _ _ _ | exact l3_ _ | exact l0_ _ | refine l2_ ?_ ?_ | refine l1_ ?_ (fun _ => ?_)
theorem wF41.mono : ∀ a0 a1 k, LeO (wF41.f k a0 a1) (wF41.f (k + 1) a0 a1) := by
 intro a0 a1 k
 have ih0 := wF41.mono_l k
 unfold wF41.f
 repeat' with_reducible first | exact ih0 _ _ _ | exact l3_ _ | exact l0_ _ | refine l2_ ?_ ?_ | refine l1_ ?_ (fun _ => ?_)
theorem wF41.calls (k : Nat) (A0 : Option Addr) (c0 : Nat) (l0 : List (S90)) (a1 : Int) (r : Int) (w : World) (hr0 : Kd.C k90 w A0 l0.length l0) (hc0 : l0.length ≤ c0) (h : wF41.f k l0 a1 = some r) :
  Calls Tryz.prog 46 #[.slice A0 l0.length c0, .int .i64 a1] w fun e w' => e = .returned (.int .i64 r) ∧ Below w.heap.size w w' := by
 have hu90 := Tryz.underlying90
 have HR0 := aM_ hr0
 have HC0 := aM_ hc0
 clear hr0 hc0
 have HB := aM_ (Below.refl w.heap.size w)
 have H : (if (wrap64 (a1 - (l0.length : Int))) < 0 then (some (-1)) else (wF41.l0 k l0 (wrap64 (a1 - (l0.length : Int))) 0)) = some r := h
 clear h
 by_cases c3 : (wrap64 (a1 - (l0.length : Int))) < 0
 ·
  rw [if_pos c3] at H
  have c3b0 := dT_ c3
  clear c3
  obtain rfl := Option.some.inj H
  go_enter Tryz.func46, Tryz.ntmps46
  go_wp2
  go_ret
  exact ⟨by rfl, by exact HB.out⟩
 rw [if_neg c3] at H
 have c3b0 := dF_ c3
 clear c3
 have H' := aM_ H
 clear H
 go_enter Tryz.func46, Tryz.ntmps46
 go_wp2
 go_loopg [1, 5] k (fun kq v1 v5 w' => ∃ (x1_1 : Int) (x5_1 : Int), v1 = .int .i64 x1_1 ∧ v5 = .int .i64 x5_1 ∧ Aside0 (wF41.l0 kq l0 x1_1 x5_1 = some r) ∧ Aside0 (kq ≤ k) ∧ Aside0 (Below w.heap.size w w'))
 case atStart => exact ⟨(wrap64 (a1 - (l0.length : Int))), (0), (by rfl), (by rfl), H', ⟨Nat.le_refl _⟩, ⟨HB.out⟩⟩
 clear H'
 try clear p2
 try clear c3b0
 obtain ⟨x1_1, x5_1, rfl, rfl, HA, HK1, HB⟩ := hrel
 cases gk with
 | zero => exact absurd HA.out (by simp [wF41.l0])
 | succ k1 =>
  have H := HA.out
  clear HA
  simp only [wF41.l0] at H
  by_cases c4 : x5_1 < (l0.length : Int)
  rotate_left
  ·
   rw [if_neg c4] at H
   have c4b0 := dF_ c4
   clear c4
   obtain rfl := Option.some.inj H
   go_wp2
   go_ret
   exact ⟨by rfl, by exact HB.out⟩
  rw [if_pos c4] at H
  have c4b0 := dT_ c4
  clear c4
  by_cases c5 : 0 ≤ x5_1
  rotate_left
  ·
   rw [if_neg c5] at H
   exact absurd H (by simp)
  rw [if_pos c5] at H
  have c5b0 := dT_ c5
  clear c5
  replace H := oB_.mp H
  obtain ⟨t104, A60, H⟩ := H
  try dsimp only at H
  have A6 := aM_ A60
  clear A60
  by_cases c7 : t104 < 0
  ·
   rw [if_pos c7] at H
   have c7b0 := dT_ c7
   clear c7
   obtain rfl := Option.some.inj H
   have p103 : 0 ≤ (x5_1 : Int) := oD_ ‹_›
   have q103 : x5_1 < (l0.length : Int) := oD_ ‹_›
   obtain ⟨ad103, A103_1, c103_1, e103, hx103_0, hx103_1, hl103_1, hi103_1⟩ := at_T90 HR0.out x5_1 p103 q103
   cases e103
   replace hx103_0 := cb_ HB hx103_0
   replace hx103_1 := cb_ HB hx103_1
   have HR103_1 := aM_ hi103_1
   have HC103_1 := aM_ hl103_1
   clear hi103_1 hl103_1
   replace p103 := eq_true p103
   replace q103 := eq_true q103
   go_wp2_with (first | (refine gs_ 23 Tryz.func74 #[.agg #[.bool ((rd_T90 l0 x5_1).f0), .slice A103_1 ((rd_T90 l0 x5_1).f1).length c103_1], .int .i64 x1_1] ?_; (with_reducible refine (wF40.calls ((rd_T90 l0 x5_1).f0) _ _ ((rd_T90 l0 x5_1).f1) x1_1 t104 _ ?side1 HC103_1.out A6.out).mono ?_); (case side1 => repeat (first | exact (k4_ HR103_1.out HB.out) | with_reducible first | apply cA_ | apply cN_ | apply cD_)); rintro e w8 ⟨rfl, hb⟩; refine ⟨_, rfl, ?_⟩; replace HB := b4_ HB hb; (try clear hb)))
   go_ret
   exact ⟨by rfl, by exact HB.out⟩
  rw [if_neg c7] at H
  have c7b0 := dF_ c7
  clear c7
  have H' := aM_ H
  clear H
  have p103 : 0 ≤ (x5_1 : Int) := oD_ ‹_›
  have q103 : x5_1 < (l0.length : Int) := oD_ ‹_›
  obtain ⟨ad103, A103_1, c103_1, e103, hx103_0, hx103_1, hl103_1, hi103_1⟩ := at_T90 HR0.out x5_1 p103 q103
  cases e103
  replace hx103_0 := cb_ HB hx103_0
  replace hx103_1 := cb_ HB hx103_1
  have HR103_1 := aM_ hi103_1
  have HC103_1 := aM_ hl103_1
  clear hi103_1 hl103_1
  replace p103 := eq_true p103
  replace q103 := eq_true q103
  go_wp2_with (first | (refine gs_ 23 Tryz.func74 #[.agg #[.bool ((rd_T90 l0 x5_1).f0), .slice A103_1 ((rd_T90 l0 x5_1).f1).length c103_1], .int .i64 x1_1] ?_; (with_reducible refine (wF40.calls ((rd_T90 l0 x5_1).f0) _ _ ((rd_T90 l0 x5_1).f1) x1_1 t104 _ ?side1 HC103_1.out A6.out).mono ?_); (case side1 => repeat (first | exact (k4_ HR103_1.out HB.out) | with_reducible first | apply cA_ | apply cN_ | apply cD_)); rintro e w9 ⟨rfl, hb⟩; refine ⟨_, rfl, ?_⟩; replace HB := b4_ HB hb; (try clear hb)))
  go_roundg k1
  case measure => have := HK1.out; omega
  case rel => exact ⟨(t104), (wrap64 (x5_1 + 1)), (by rfl), (by rfl), H', ⟨by have := HK1.out; omega⟩, ⟨HB.out⟩⟩
def wF39.f (k : Nat) (l0_0 : List (S90)) (a1 : Int) : Option (Int) := (wF41.f k l0_0 a1).bind fun t106 => (if t106 < 0 then (some (-1)) else (some t106))
theorem wF39.mono : ∀ a0 a1 k, LeO (wF39.f k a0 a1) (wF39.f (k + 1) a0 a1) := by
 intro a0 a1 k
 unfold wF39.f
 repeat' with_reducible first | exact wF41.mono _ _ _ | exact l3_ _ | exact l0_ _ | refine l2_ ?_ ?_ | refine l1_ ?_ (fun _ => ?_)
theorem wF39.calls (k : Nat) (A0_0 : Option Addr) (c0_0 : Nat) (l0_0 : List (S90)) (a1 : Int) (r : Int) (w : World) (hr0_0 : Kd.C k90 w A0_0 l0_0.length l0_0) (hc0_0 : l0_0.length ≤ c0_0) (h : wF39.f k l0_0 a1 = some r) :
  Calls Tryz.prog 13 #[.agg #[.slice A0_0 l0_0.length c0_0], .int .i64 a1] w fun e w' => e = .returned (.int .i64 r) ∧ Below w.heap.size w w' := by
 have hu24 := Tryz.underlying24
 have HR0_0 := aM_ hr0_0
 have HC0_0 := aM_ hc0_0
 clear hr0_0 hc0_0
 have HB := aM_ (Below.refl w.heap.size w)
 have H : ((wF41.f k l0_0 a1).bind fun t106 => (if t106 < 0 then (some (-1)) else (some t106))) = some r := h
 clear h
 replace H := oB_.mp H
 obtain ⟨t106, A30, H⟩ := H
 try dsimp only at H
 have A3 := aM_ A30
 clear A30
 by_cases c4 : t106 < 0
 ·
  rw [if_pos c4] at H
  have c4b0 := dT_ c4
  clear c4
  obtain rfl := Option.some.inj H
  go_enter Tryz.func13, Tryz.ntmps13
  go_wp2_with (first | (refine bx_ 2 #[.slice A0_0 l0_0.length c0_0] 24 ?_; intro gb105 hg w5 hbox hb; have BK105 := aM_ (hbox); have GW105 := gw_ hg HB; replace HB := b4_ HB hb; clear hb hbox hg; have hcz6_0 := c0_ BK105; have hfz6_0 := bF_ BK105.out 0) | (refine gs_ 8 Tryz.func46 #[.slice A0_0 l0_0.length c0_0, .int .i64 a1] ?_; (with_reducible refine (wF41.calls k _ _ l0_0 a1 t106 _ ?side1 HC0_0.out A3.out).mono ?_); (case side1 => repeat (first | exact (k4_ HR0_0.out HB.out) | with_reducible first | apply cA_ | apply cN_ | apply cD_)); rintro e w7 ⟨rfl, hb⟩; refine ⟨_, rfl, ?_⟩; replace BK105 := b5_ BK105 hb; replace HB := b4_ HB hb; (try clear hb)))
  go_ret
  exact ⟨by rfl, by exact HB.out⟩
 rw [if_neg c4] at H
 have c4b0 := dF_ c4
 clear c4
 obtain rfl := Option.some.inj H
 go_enter Tryz.func13, Tryz.ntmps13
 go_wp2_with (first | (refine bx_ 2 #[.slice A0_0 l0_0.length c0_0] 24 ?_; intro gb105 hg w8 hbox hb; have BK105 := aM_ (hbox); have GW105 := gw_ hg HB; replace HB := b4_ HB hb; clear hb hbox hg; have hcz9_0 := c0_ BK105; have hfz9_0 := bF_ BK105.out 0) | (refine gs_ 8 Tryz.func46 #[.slice A0_0 l0_0.length c0_0, .int .i64 a1] ?_; (with_reducible refine (wF41.calls k _ _ l0_0 a1 t106 _ ?side1 HC0_0.out A3.out).mono ?_); (case side1 => repeat (first | exact (k4_ HR0_0.out HB.out) | with_reducible first | apply cA_ | apply cN_ | apply cD_)); rintro e w10 ⟨rfl, hb⟩; refine ⟨_, rfl, ?_⟩; replace BK105 := b5_ BK105 hb; replace HB := b4_ HB hb; (try clear hb)))
 go_ret
 exact ⟨by rfl, by exact HB.out⟩
def wF42.f (a0_0 a0_1 : Int) : Option (Int × Int) := some (a0_0, a0_1)
structure wF42.Inv (w W : World) (a b x y : Int) : Prop where
 h1 : W.heap[w.heap.size]? = some (.cells #[.int .i64 a, .int .i64 b] 88 (0, 0))
 h2 : W.heap[w.heap.size + 1]? = some (.cells #[.int .i64 0, .int .i64 0] 88 (0, 0))
 h3 : W.heap[w.heap.size + 1 + 1]? = some (.cells #[.int .i64 x, .int .i64 y] 88 (0, 0))
 hB : Below w.heap.size w W
set_option maxHeartbeats 4000000 in
theorem wF42.calls (a0_0 a0_1 : Int) (r1 r2 : Int) (w : World) (h : wF42.f a0_0 a0_1 = some (r1, r2)) :
  Calls Tryz.prog 122 #[.agg #[.int .i64 a0_0, .int .i64 a0_1]] w fun e w' => e = .returned (.agg #[.int .i64 r1, .int .i64 r2]) ∧ Below w.heap.size w w' := by
 unfold wF42.f at h
 simp only [Option.some.injEq, Prod.mk.injEq] at h
 obtain ⟨rfl, rfl⟩ := h
 obtain ⟨W1, hW1⟩ : ∃ W1, W1 = w.alloc (.cells #[.int .i64 a0_0, .int .i64 a0_1] 88 (0, 0)) := ⟨_, rfl⟩
 obtain ⟨W2, hW2⟩ : ∃ W2, W2 = W1.alloc (.cells #[.int .i64 0, .int .i64 0] 88 (0, 0)) := ⟨_, rfl⟩
 obtain ⟨W3, hW3⟩ : ∃ W3, W3 = W2.alloc (.cells #[.int .i64 0, .int .i64 0] 88 (0, 0)) := ⟨_, rfl⟩
 have s1 : W1.heap.size = w.heap.size + 1 := by rw [hW1]; simp
 have s2 : W2.heap.size = w.heap.size + 1 + 1 := by rw [hW2]; simp [s1]
 have g1 : W1.heap[w.heap.size]? = some (.cells #[.int .i64 a0_0, .int .i64 a0_1] 88 (0, 0)) := by rw [hW1]; exact blk_new _ _
 have g2 : W2.heap[w.heap.size + 1]? = some (.cells #[.int .i64 0, .int .i64 0] 88 (0, 0)) := by rw [hW2, ← s1]; exact blk_new _ _
 have g3 : W3.heap[w.heap.size + 1 + 1]? = some (.cells #[.int .i64 0, .int .i64 0] 88 (0, 0)) := by rw [hW3, ← s2]; exact blk_new _ _
 have gB : Below w.heap.size w W3 := by
  rw [hW3, hW2, hW1]
  exact (((Below.refl w.heap.size w).alloc (Nat.le_refl _) _).alloc (by simp) _).alloc (by simp; omega) _
 have HI := aM_ (show wF42.Inv w W3 a0_0 a0_1 0 0 from ⟨by rw [hW3, hW2]; exact b3_ (b3_ g1 _) _, by rw [hW3]; exact b3_ g2 _, g3, gB⟩)
 have HW3 := aM_ (show W3 = ((w.alloc (.cells #[.int .i64 a0_0, .int .i64 a0_1] 88 (0, 0))).alloc (.cells #[.int .i64 0, .int .i64 0] 88 (0, 0))).alloc (.cells #[.int .i64 0, .int .i64 0] 88 (0, 0)) from by rw [hW3, hW2, hW1])
 clear hW1 hW2 hW3 s1 s2 g1 g2 g3 gB
 go_enter Tryz.func122, Tryz.ntmps122
 go_wp2_with fail
 rw [← HW3.out]
 clear HW3
 go_loopg [4] 2 (fun gg s5 wr => ∃ i : Nat, i ≤ 2 ∧ 2 - i ≤ gg ∧ s5 = .int .i64 i ∧ Aside0 (wF42.Inv w wr a0_0 a0_1 (if 0 < i then a0_0 else 0) (if 1 < i then a0_1 else 0)))
 case atStart => exact ⟨0, by omega, by omega, rfl, HI⟩
 obtain ⟨i, hi, hg, rfl, HJ⟩ := hrel
 clear HI
 obtain rfl | rfl | rfl : i = 0 ∨ i = 1 ∨ i = 2 := by omega
 ·
  have HK := aM_ (show wF42.Inv w wr a0_0 a0_1 0 0 from HJ.out)
  clear HJ
  have d0 : wr.cell? ⟨w.heap.size, 0, none⟩ = some (.int .i64 a0_0) := (bC_ HK.out.h1 0).trans rfl
  have d1 : wr.cell? ⟨w.heap.size + 1 + 1, 0, none⟩ = some (.int .i64 0) := (bC_ HK.out.h3 0).trans rfl
  have d2 := bF_ HK.out.h3 0
  go_wp2_with fail
  go_roundg 1
  case measure => omega
  refine ⟨1, by omega, by omega, by go_num, ⟨?_⟩⟩
  exact ⟨bR_ HK.out.h1 (by show w.heap.size ≠ w.heap.size + 1 + 1; omega) _, bR_ HK.out.h2 (by show w.heap.size + 1 ≠ w.heap.size + 1 + 1; omega) _, bP_ HK.out.h3 0 _ rfl, bS_ HK.out.hB (by omega)⟩
 ·
  have HK := aM_ (show wF42.Inv w wr a0_0 a0_1 a0_0 0 from HJ.out)
  clear HJ
  have d0 : wr.cell? ⟨w.heap.size, 1, none⟩ = some (.int .i64 a0_1) := (bC_ HK.out.h1 1).trans rfl
  have d1 : wr.cell? ⟨w.heap.size + 1 + 1, 1, none⟩ = some (.int .i64 0) := (bC_ HK.out.h3 1).trans rfl
  have d2 := bF_ HK.out.h3 1
  go_wp2_with fail
  go_roundg 0
  case measure => omega
  refine ⟨2, by omega, by omega, by go_num, ⟨?_⟩⟩
  exact ⟨bR_ HK.out.h1 (by show w.heap.size ≠ w.heap.size + 1 + 1; omega) _, bR_ HK.out.h2 (by show w.heap.size + 1 ≠ w.heap.size + 1 + 1; omega) _, bP_ HK.out.h3 1 _ rfl, bS_ HK.out.hB (by omega)⟩
 have HK := aM_ (show wF42.Inv w wr a0_0 a0_1 a0_0 a0_1 from HJ.out)
 clear HJ
 have d0 : wr.cell? ⟨w.heap.size + 1 + 1, 0, none⟩ = some (.int .i64 a0_0) := (bC_ HK.out.h3 0).trans rfl
 have d1 : wr.cell? ⟨w.heap.size + 1 + 1, 1, none⟩ = some (.int .i64 a0_1) := (bC_ HK.out.h3 1).trans rfl
 have d2 := bF_ HK.out.h2 0
 have d3 := bF_ HK.out.h2 1
 have d4 : wr.cell? ⟨w.heap.size + 1, 0, none⟩ = some (.int .i64 0) := (bC_ HK.out.h2 0).trans rfl
 have d5 : wr.cell? ⟨w.heap.size + 1, 1, none⟩ = some (.int .i64 0) := (bC_ HK.out.h2 1).trans rfl
 go_wp2_with fail
 refine bodyPost_ret (results_cell_row rfl _ _ (w.heap.size + 1) 88 #[.int .i64 a0_0, .int .i64 a0_1] (0, 0) _ rfl (by refine bP_ (cs := #[.int .i64 a0_0, .int .i64 0]) ?_ 1 _ rfl; exact bP_ HK.out.h2 0 _ rfl) Tryz.underlying88 rfl (by kernel_rfl)) rfl ?_
 exact ⟨rfl, bS_ (bS_ HK.out.hB (by omega)) (by omega)⟩
def wF43.l0 : Nat → List (S88) → List (S88) → Int → Option ((List (S88)))
 | 0, _, _, _ => none
 | k + 1, x0, x3, x4 => if x4 < (x0.length : Int) then (if 0 ≤ x4 then ((wF42.f ((rd_T88 x0 x4).f0) ((rd_T88 x0 x4).f1)).bind fun bt331 => (if x4 < (x3.length : Int) then (wF43.l0 k x0 (x3.set (x4 : Int).toNat (⟨bt331.1, bt331.2⟩ : S88)) (wrap64 (x4 + 1))) else (none))) else (none)) else (some x3)
def wF43.f (k : Nat) (l0 : List (S88)) : Option ((List (S88))) := if 0 ≤ (l0.length : Int) then (if ((l0.length : Int) : Int).toNat ≤ 17592186044416 then (wF43.l0 k l0 (List.replicate ((l0.length : Int) : Int).toNat z88) 0) else (none)) else (none)
theorem wF43.mono_l : ∀ k, (∀ y0 y1 y2, LeO (wF43.l0 k y0 y1 y2) (wF43.l0 (k + 1) y0 y1 y2))
 | 0 => fun _ _ _ r h => by simp [wF43.l0] at h
 | k + 1 => by
  have ih0 := wF43.mono_l k
  intro y0 y1 y2
  unfold wF43.l0
  repeat' with_reducible first | exact ih0 _ _ _ | exact l3_ _ | exact l0_ _ | refine l2_ ?_ ?_ | refine l1_ ?_ (fun _ => ?_)
theorem wF43.mono : ∀ a0 k, LeO (wF43.f k a0) (wF43.f (k + 1) a0) := by
 intro a0 k
 have ih0 := wF43.mono_l k
 unfold wF43.f
 repeat' with_reducible first | exact ih0 _ _ _ | exact l3_ _ | exact l0_ _ | refine l2_ ?_ ?_ | refine l1_ ?_ (fun _ => ?_)
theorem wF43.calls (k : Nat) (A0 : Option Addr) (c0 : Nat) (l0 : List (S88)) (r : List (S88)) (w : World) (hr0 : Kd.C k88 w A0 l0.length l0) (hc0 : l0.length ≤ c0) (h : wF43.f k l0 = some r) :
  Calls Tryz.prog 105 #[.slice A0 l0.length c0] w fun e w' => ∃ v0_ : Value, e = .returned (v0_) ∧ Kd.R k88 88 w' w.heap.size (fun _ => True) v0_ r ∧ Below w.heap.size w w' := by
 have hu88 := Tryz.underlying88
 have HR0 := aM_ hr0
 have HC0 := aM_ hc0
 clear hr0 hc0
 have HB := aM_ (Below.refl w.heap.size w)
 have H : (if 0 ≤ (l0.length : Int) then (if ((l0.length : Int) : Int).toNat ≤ 17592186044416 then (wF43.l0 k l0 (List.replicate ((l0.length : Int) : Int).toNat z88) 0) else (none)) else (none)) = some r := h
 clear h
 by_cases c2 : 0 ≤ (l0.length : Int)
 rotate_left
 ·
  rw [if_neg c2] at H
  exact absurd H (by simp)
 rw [if_pos c2] at H
 have c2b0 := eq_true c2
 have c2b1 := dT_ c2
 clear c2
 by_cases c3 : ((l0.length : Int) : Int).toNat ≤ 17592186044416
 rotate_left
 ·
  rw [if_neg c3] at H
  exact absurd H (by simp)
 rw [if_pos c3] at H
 have c3b0 := eq_true c3
 have c3b1 := dT_ c3
 clear c3
 obtain ⟨y327, hy327⟩ : ∃ y_ : List (S88), y_ = (List.replicate ((l0.length : Int) : Int).toNat z88) := ⟨_, rfl⟩
 replace H : (wF43.l0 k l0 y327 0) = some r := by (try rw [hy327]); first | with_reducible exact H | with_reducible exact oS_ H | exact H
 have Ny327 := aM_ hy327
 clear hy327
 have H' := aM_ H
 clear H
 go_enter Tryz.func105, Tryz.ntmps105
 go_wp2_with (first | ((with_reducible refine gD_ (N := 7) rfl ?_); refine Kd.R_make k88 _ 88 rfl (N := 7) rfl 70 _ _ rfl (l0.length : Int) rfl rfl Tryz.underlying70 (.agg #[(.int .i64 0), (.int .i64 0)]) 16 info88 rfl (by decide) (by omega) z88 (ok := fun _ => True) (okp := fun _ => True) (k88_mkM _ _ _ z88 ) (fun _ hk => hk) trivial (oD_ ‹_›) (Nat.le_trans (Nat.mul_le_mul_right _ (oD_ ‹_› : (l0.length : Int).toNat ≤ 17592186044416)) (by omega)) (Below.refl _ _) (Nat.le_refl _) ?_; intro v328 w4 ho5 hb hg_ hnew_; clear hg_ hnew_; (rw [← Ny327.out] at ho5); have HO329 := aM_ (k5_ ho5 (bZ_ HB.out)); replace HB := b4_ HB hb; clear hb ho5))
 go_loopg [4] k (fun kq v4 w' => ∃ (x3_1 : List (S88)) (x4_1 : Int), v4 = .int .i64 x4_1 ∧ Aside0 (wF43.l0 kq l0 x3_1 x4_1 = some r) ∧ Aside0 (kq ≤ k) ∧ Aside0 (Kd.R k88 88 w' w.heap.size (fun _ => True) v328 x3_1) ∧ Aside0 (Below w.heap.size w w'))
 case atStart => exact ⟨(y327), (0), (by rfl), H', ⟨Nat.le_refl _⟩, ⟨HO329.out⟩, ⟨HB.out⟩⟩
 clear H'
 try clear c2b0
 try clear c2b1
 try clear p2
 try clear c3b0
 try clear c3b1
 obtain ⟨x3_1, x4_1, rfl, HA, HK1, HO_3, HB⟩ := hrel
 cases gk with
 | zero => exact absurd HA.out (by simp [wF43.l0])
 | succ k1 =>
  have H := HA.out
  clear HA
  simp only [wF43.l0] at H
  by_cases c6 : x4_1 < (l0.length : Int)
  rotate_left
  ·
   rw [if_neg c6] at H
   have c6b0 := dF_ c6
   clear c6
   obtain rfl := Option.some.inj H
   go_wp2
   go_ret
   exact ⟨_, by rfl, by exact HO_3.out, by exact HB.out⟩
  rw [if_pos c6] at H
  have c6b0 := dT_ c6
  clear c6
  by_cases c7 : 0 ≤ x4_1
  rotate_left
  ·
   rw [if_neg c7] at H
   exact absurd H (by simp)
  rw [if_pos c7] at H
  have c7b0 := dT_ c7
  clear c7
  replace H := oB_.mp H
  obtain ⟨⟨t331, t332⟩, A80, H⟩ := H
  try dsimp only at H
  have A8 := aM_ A80
  clear A80
  by_cases c9 : x4_1 < (x3_1.length : Int)
  rotate_left
  ·
   rw [if_neg c9] at H
   exact absurd H (by simp)
  rw [if_pos c9] at H
  have c9b0 := dT_ c9
  clear c9
  obtain ⟨y333, hy333⟩ : ∃ y_ : List (S88), y_ = (x3_1.set (x4_1 : Int).toNat (⟨t331, t332⟩ : S88)) := ⟨_, rfl⟩
  replace H : (wF43.l0 k1 l0 y333 (wrap64 (x4_1 + 1))) = some r := by (try rw [hy333]); first | with_reducible exact H | with_reducible exact oS_ H | exact H
  have Ny333 := aM_ hy333
  clear hy333
  have H' := aM_ H
  clear H
  have p330 : 0 ≤ (x4_1 : Int) := oD_ ‹_›
  have q330 : x4_1 < (l0.length : Int) := oD_ ‹_›
  obtain ⟨ad330, e330, hx330_0, hx330_1⟩ := at_T88 HR0.out x4_1 p330 q330
  cases e330
  replace hx330_0 := cb_ HB hx330_0
  replace hx330_1 := cb_ HB hx330_1
  replace p330 := eq_true p330
  replace q330 := eq_true q330
  go_wp2_with (first | (refine gs_ 20 Tryz.func122 #[.agg #[.int .i64 ((rd_T88 l0 x4_1).f0), .int .i64 ((rd_T88 l0 x4_1).f1)]] ?_; (with_reducible refine (wF42.calls ((rd_T88 l0 x4_1).f0) ((rd_T88 l0 x4_1).f1) t331 t332 _ A8.out).mono ?_); rintro e w11 ⟨rfl, hb⟩; refine ⟨_, rfl, ?_⟩; replace HO_3 := k9_ HO_3 hb; replace HB := b4_ HB hb; (try clear hb); have p10 : 0 ≤ (x4_1 : Int) := oD_ ‹_›; have q10 : (x4_1 : Int) < ((x3_1.length : Int) : Int) := oD_ ‹_›; obtain ⟨go10, co10, eo10, gb10, gl10, cl10, HG10⟩ := Kd.R_form HO_3.out (by omega); (cases eo10); have GB10 := aM_ gb10; have GG10 := aM_ HG10; clear gb10 gl10 HG10; obtain ⟨ce10, hcl10, hM10, hcc10, hfr10⟩ := Kd.R_elem HO_3.out z88 (x4_1 : Int) p10 q10; obtain rfl := k88_openM hM10; have hx10_0 : w11.cell? ⟨go10, (x4_1 : Int).toNat * 2, none⟩ = some (.int .i64 ((rd_T88 x3_1 x4_1).f0)) := hcc10 0 _ rfl; have hx10_1 : w11.cell? ⟨go10, (x4_1 : Int).toNat * 2 + 1, none⟩ = some (.int .i64 ((rd_T88 x3_1 x4_1).f1)) := hcc10 1 _ rfl; have hf10_0 : w11.frozen? ⟨go10, (x4_1 : Int).toNat * 2, none⟩ = false := hfr10 0; have hf10_1 : w11.frozen? ⟨go10, (x4_1 : Int).toNat * 2 + 1, none⟩ = false := hfr10 1; clear hcl10 hcc10 hfr10 hM10; replace p10 := eq_true p10; replace q10 := eq_true q10; have HX12 := aM_ (show Kd.R k88 88 w11 w.heap.size (fun _ => True) (.slice (some ⟨go10, 0, none⟩) x3_1.length co10) x3_1 from HO_3.out); obtain ⟨ce12, hcl12, hM12, hcc12, hfr12⟩ := Kd.R_elem HX12.out z88 (x4_1 : Int) (oD_ ‹_›) (by have h_ : (x4_1 : Int) < ((x3_1.length : Int) : Int) := oD_ ‹_›; exact h_); obtain rfl := k88_openM hM12; have HP12 := Kd.R_seg HX12.out (x4_1 : Int) (oD_ ‹_›) (by have h_ : (x4_1 : Int) < ((x3_1.length : Int) : Int) := oD_ ‹_›; exact h_) (seg := [.int .i64 t331, .int .i64 t332]) (j := 0) hcl12 hcc12 (show 2 ≤ 2 from by decide) (x' := (⟨t331, t332⟩ : S88)) (k88_mkM _ _ _ (⟨t331, t332⟩ : S88) ) (fun _ hk => hk); have hx12_0 := hcc12 0 _ rfl; (try simp only [show (k88).sz = 2 from rfl, Nat.mul_one, Nat.add_zero] at hx12_0); have hf12_0 := hfr12 0; (try simp only [show (k88).sz = 2 from rfl, Nat.mul_one, Nat.add_zero] at hf12_0); have hx12_1 := hcc12 1 _ rfl; (try simp only [show (k88).sz = 2 from rfl, Nat.mul_one, Nat.add_zero] at hx12_1); have hf12_1 := hfr12 1; (try simp only [show (k88).sz = 2 from rfl, Nat.mul_one, Nat.add_zero] at hf12_1); clear hcl12 hcc12 hfr12 hM12) | ((with_reducible refine gate_store (t := 88) (p := 21) rfl ?_); refine store_event (t := 88) (p := 21) (v := ?vo_w13) (w1 := ((w11.setCell ⟨go10, (x4_1 : Int).toNat * 2, none⟩ (.int .i64 t331)).setCell ⟨go10, (x4_1 : Int).toNat * 2 + 1, none⟩ (.int .i64 t332))) ?hg ?ho ?hn ?hr ?_; (case ho => rfl); (case hg => rfl); (case hn => rfl); (case hr => (go_simp; done)); intro w13 hw; have hg : w11.grownBy w13 (some go10) := (by rw [hw]; exact HP12.2); have hp_ : Kd.R k88 88 w13 w.heap.size (fun _ => True) (.slice (some ⟨go10, 0, none⟩) x3_1.length co10) y333 := (by rw [hw, Ny333.out]; exact HP12.1); clear HP12; replace HO_3 := aM_ (hp_); replace HB := aM_ ((by rw [hw]; exact bS_ (bS_ (HB.out) GB10.out) GB10.out : Below w.heap.size w w13)); clear hg hw hp_))
  go_roundg k1
  case measure => have := HK1.out; omega
  case rel => exact ⟨(y333), (wrap64 (x4_1 + 1)), (by rfl), H', ⟨by have := HK1.out; omega⟩, ⟨HO_3.out⟩, ⟨HB.out⟩⟩
def wF45.f (k : Nat) (a0_0 : Bool) (l0_1 : List (S88)) : Option (Bool × (List (S88))) := (wF43.f k l0_1).bind fun t337 => (some (a0_0, t337))
theorem wF45.mono : ∀ a0 a1 k, LeO (wF45.f k a0 a1) (wF45.f (k + 1) a0 a1) := by
 intro a0 a1 k
 unfold wF45.f
 repeat' with_reducible first | exact wF43.mono _ _ | exact l3_ _ | exact l0_ _ | refine l2_ ?_ ?_ | refine l1_ ?_ (fun _ => ?_)
theorem wF45.calls (k : Nat) (a0_0 : Bool) (A0_1 : Option Addr) (c0_1 : Nat) (l0_1 : List (S88)) (r1 : Bool) (r2 : List (S88)) (w : World) (hr0_1 : Kd.C k88 w A0_1 l0_1.length l0_1) (hc0_1 : l0_1.length ≤ c0_1) (h : wF45.f k a0_0 l0_1 = some (r1, r2)) :
  Calls Tryz.prog 80 #[.agg #[.bool a0_0, .slice A0_1 l0_1.length c0_1]] w fun e w' => ∃ v1_ : Value, e = .returned (.agg #[.bool r1, v1_]) ∧ Kd.R k88 88 w' w.heap.size (fun _ => True) v1_ r2 ∧ Below w.heap.size w w' := by
 have hu90 := Tryz.underlying90
 have hu72 := Tryz.underlying72
 have HR0_1 := aM_ hr0_1
 have HC0_1 := aM_ hc0_1
 clear hr0_1 hc0_1
 have HB := aM_ (Below.refl w.heap.size w)
 have H : ((wF43.f k l0_1).bind fun t337 => (some (a0_0, t337))) = some (r1, r2) := h
 clear h
 replace H := oB_.mp H
 obtain ⟨t337, A20, H⟩ := H
 try dsimp only at H
 have A2 := aM_ A20
 clear A20
 simp only [Option.some.injEq, Prod.mk.injEq] at H
 obtain ⟨rfl, rfl⟩ := H
 go_enter Tryz.func80, Tryz.ntmps80
 go_wp2_with (first | (refine bx_ 1 #[.bool a0_0, .slice A0_1 l0_1.length c0_1] 90 ?_; intro gb334 hg w3 hbox hb; have BK334 := aM_ (hbox); have GW334 := gw_ hg HB; replace HB := b4_ HB hb; clear hb hbox hg) | (refine bx_ 2 #[.bool false, .slice none 0 0] 72 ?_; intro gb335 hg w4 hbox hb; have BK335 := aM_ (hbox); have GW335 := gw_ hg HB; replace HB := b4_ HB hb; have NB334_335 := nb_ hg BK334; have NB335_334 := ns_ NB334_335; replace BK334 := b5_ BK334 hb; clear hb hbox hg) | (refine bx_ 3 #[.bool false, .slice none 0 0] 72 ?_; intro gb336 hg w5 hbox hb; have BK336 := aM_ (hbox); have GW336 := gw_ hg HB; replace HB := b4_ HB hb; have NB334_336 := nb_ hg BK334; have NB336_334 := ns_ NB334_336; replace BK334 := b5_ BK334 hb; have NB335_336 := nb_ hg BK335; have NB336_335 := ns_ NB335_336; replace BK335 := b5_ BK335 hb; clear hb hbox hg; have hnb6 := NB334_335.out; have hnc6 := NB335_334.out; have hnb7 := NB334_336.out; have hnc7 := NB336_334.out; have hcz8_0 := c0_ BK334; have hcz8_1 := c1_ BK334; have hfz8_0 := bF_ BK334.out 0; have hfz8_1 := bF_ BK334.out 1; have hnb9 := NB336_335.out; have hnc9 := NB335_336.out; have hcz10_0 := c0_ BK336; have hcz10_1 := c1_ BK336; have hfz10_0 := bF_ BK336.out 0; have hfz10_1 := bF_ BK336.out 1) | (refine gs_ 9 Tryz.func105 #[.slice A0_1 l0_1.length c0_1] ?_; (with_reducible refine (wF43.calls k _ _ l0_1 t337 _ ?side1 HC0_1.out A2.out).mono ?_); (case side1 => exact k4_ HR0_1.out (by repeat with_reducible first | exact HB.out | apply bA_ | apply bN_ | apply bD_ | refine bS_ ?_ (Aside0.out ‹_›))); rintro e w11 ⟨v338, rfl, ho0, hb⟩; refine ⟨_, rfl, ?_⟩; have HO339 := aM_ (k5_ ho0 (bZ_ (by repeat with_reducible first | exact HB.out | apply bA_ | apply bN_ | apply bD_ | refine bS_ ?_ (Aside0.out ‹_›)))); replace BK334 := aM_ (bB_ (g := gb334) (o := .cells #[.bool a0_0, .slice A0_1 l0_1.length c0_1] 90 (0, 0)) (by exact br_ NB334_336.out (BK334.out)) hb); replace BK335 := aM_ (bB_ (g := gb335) (o := .cells #[.bool false, .slice none 0 0] 72 (0, 0)) (by exact br_ NB335_336.out (BK335.out)) hb); replace BK336 := aM_ (bB_ (g := gb336) (o := .cells #[.bool a0_0, .slice none 0 0] 72 (0, 0)) (by refine bP_ (cs := #[.bool false, .slice none 0 0]) ?_ 0 _ rfl; exact BK336.out) hb); replace HB := aM_ (bT_ (by repeat with_reducible first | exact HB.out | apply bA_ | apply bN_ | apply bD_ | refine bS_ ?_ (Aside0.out ‹_›)) hb); (try clear hb); (try clear ho0); obtain ⟨Ao12, co12, eo12⟩ := kS_ HO339.out; subst eo12; have hcz13_0 := c0_ BK336; have hcz13_1 := c1_ BK336; have hfz13_0 := bF_ BK336.out 0; have hfz13_1 := bF_ BK336.out 1; have hcz14_0 := c0_ BK335; have hcz14_1 := c1_ BK335; have hfz14_0 := bF_ BK335.out 0; have hfz14_1 := bF_ BK335.out 1))
 refine bodyPost_ret (results_cell_row rfl _ _ gb335 72 #[.bool a0_0, .slice Ao12 t337.length co12] (0, 0) _ rfl (by refine bP_ (cs := #[.bool a0_0, .slice none 0 0]) ?_ 1 _ rfl; refine bP_ (cs := #[.bool false, .slice none 0 0]) ?_ 0 _ rfl; exact br_ NB335_336.out (BK335.out)) Tryz.underlying72 rfl (by kernel_rfl)) rfl ?_
 exact ⟨_, by rfl, by exact kM_ (kF_ (p := ⟨gb335, 1, none⟩) (kF_ (p := ⟨gb335, 0, none⟩) (kF_ (p := ⟨gb336, 1, none⟩) (kT_ (kT_ HO339.out BK336.out (by decide)) BK335.out (by decide)) (fun _ hk => hk.1.2) (.slice Ao12 t337.length co12)) (fun _ hk => hk.2) (.bool a0_0)) (fun _ hk => hk.2) (.slice Ao12 t337.length co12)) (fun _ hk => trivial), by repeat with_reducible first | exact HB.out | apply bA_ | apply bN_ | apply bD_ | refine bS_ ?_ (Aside0.out ‹_›)⟩
def wF46.l0 : Nat → List (S90) → List (S72) → Int → Option ((List (S72)))
 | 0, _, _, _ => none
 | k + 1, x0, x3, x4 => if x4 < (x0.length : Int) then (if 0 ≤ x4 then ((wF45.f k ((rd_T90 x0 x4).f0) ((rd_T90 x0 x4).f1)).bind fun bt344 => (if x4 < (x3.length : Int) then (wF46.l0 k x0 (x3.set (x4 : Int).toNat (⟨bt344.1, bt344.2⟩ : S72)) (wrap64 (x4 + 1))) else (none))) else (none)) else (some x3)
def wF46.f (k : Nat) (l0 : List (S90)) : Option ((List (S72))) := if 0 ≤ (l0.length : Int) then (if ((l0.length : Int) : Int).toNat ≤ 8796093022208 then (wF46.l0 k l0 (List.replicate ((l0.length : Int) : Int).toNat z72) 0) else (none)) else (none)
theorem wF46.mono_l : ∀ k, (∀ y0 y1 y2, LeO (wF46.l0 k y0 y1 y2) (wF46.l0 (k + 1) y0 y1 y2))
 | 0 => fun _ _ _ r h => by simp [wF46.l0] at h
 | k + 1 => by
  have ih0 := wF46.mono_l k
  intro y0 y1 y2
  unfold wF46.l0
  repeat' with_reducible first | exact ih0 _ _ _ | exact wF45.mono _ _ _ | exact l3_ _ | exact l0_ _ | refine l2_ ?_ ?_ | refine l1_ ?_ (fun _ => ?_)
theorem wF46.mono : ∀ a0 k, LeO (wF46.f k a0) (wF46.f (k + 1) a0) := by
 intro a0 k
 have ih0 := wF46.mono_l k
 unfold wF46.f
 repeat' with_reducible first | exact ih0 _ _ _ | exact wF45.mono _ _ _ | exact l3_ _ | exact l0_ _ | refine l2_ ?_ ?_ | refine l1_ ?_ (fun _ => ?_)
theorem wF46.calls (k : Nat) (A0 : Option Addr) (c0 : Nat) (l0 : List (S90)) (r : List (S72)) (w : World) (hr0 : Kd.C k90 w A0 l0.length l0) (hc0 : l0.length ≤ c0) (h : wF46.f k l0 = some r) :
  Calls Tryz.prog 50 #[.slice A0 l0.length c0] w fun e w' => ∃ v0_ : Value, e = .returned (v0_) ∧ Kd.S k72 72 w' w.heap.size (fun _ => True) v0_ r ∧ Below w.heap.size w w' := by
 have hu90 := Tryz.underlying90
 have hu72 := Tryz.underlying72
 have HR0 := aM_ hr0
 have HC0 := aM_ hc0
 clear hr0 hc0
 have HB := aM_ (Below.refl w.heap.size w)
 have H : (if 0 ≤ (l0.length : Int) then (if ((l0.length : Int) : Int).toNat ≤ 8796093022208 then (wF46.l0 k l0 (List.replicate ((l0.length : Int) : Int).toNat z72) 0) else (none)) else (none)) = some r := h
 clear h
 by_cases c2 : 0 ≤ (l0.length : Int)
 rotate_left
 ·
  rw [if_neg c2] at H
  exact absurd H (by simp)
 rw [if_pos c2] at H
 have c2b0 := eq_true c2
 have c2b1 := dT_ c2
 clear c2
 by_cases c3 : ((l0.length : Int) : Int).toNat ≤ 8796093022208
 rotate_left
 ·
  rw [if_neg c3] at H
  exact absurd H (by simp)
 rw [if_pos c3] at H
 have c3b0 := eq_true c3
 have c3b1 := dT_ c3
 clear c3
 obtain ⟨y340, hy340⟩ : ∃ y_ : List (S72), y_ = (List.replicate ((l0.length : Int) : Int).toNat z72) := ⟨_, rfl⟩
 replace H : (wF46.l0 k l0 y340 0) = some r := by (try rw [hy340]); first | with_reducible exact H | with_reducible exact oS_ H | exact H
 have Ny340 := aM_ hy340
 clear hy340
 have H' := aM_ H
 clear H
 go_enter Tryz.func50, Tryz.ntmps50
 go_wp2_with (first | ((with_reducible refine gD_ (N := 7) rfl ?_); refine Kd.S_make k72 _ 72 rfl (N := 7) rfl 31 _ _ rfl (l0.length : Int) rfl rfl Tryz.underlying31 (.agg #[(.bool false), (.slice none 0 0)]) 32 info72 rfl (by decide) (by omega) z72 (ok := fun _ => True) (okp := fun _ => True) (k72_mkM _ _ _ z72 (Kd.R_nil _ _ _ _ _)) (fun _ hk => hk) trivial (oD_ ‹_›) (Nat.le_trans (Nat.mul_le_mul_right _ (oD_ ‹_› : (l0.length : Int).toNat ≤ 8796093022208)) (by omega)) (Below.refl _ _) (Nat.le_refl _) ?_; intro v341 w4 ho5 hb hg_ hnew_; clear hg_ hnew_; (rw [← Ny340.out] at ho5); have HO342 := aM_ (Kd.S_lower ho5 (bZ_ HB.out)); replace HB := b4_ HB hb; clear hb ho5))
 go_loopg [4] k (fun kq v4 w' => ∃ (x3_1 : List (S72)) (x4_1 : Int), v4 = .int .i64 x4_1 ∧ Aside0 (wF46.l0 kq l0 x3_1 x4_1 = some r) ∧ Aside0 (kq ≤ k) ∧ Aside0 (Kd.S k72 72 w' w.heap.size (fun _ => True) v341 x3_1) ∧ Aside0 (Below w.heap.size w w'))
 case atStart => exact ⟨(y340), (0), (by rfl), H', ⟨Nat.le_refl _⟩, ⟨by (with_reducible repeat (first | apply Kd.S_alloc | apply Kd.S_drewN | apply Kd.S_drew)); exact HO342.out⟩, ⟨HB.out⟩⟩
 clear H'
 try clear c2b0
 try clear c2b1
 try clear p2
 try clear c3b0
 try clear c3b1
 obtain ⟨x3_1, x4_1, rfl, HA, HK1, HO_3, HB⟩ := hrel
 cases gk with
 | zero => exact absurd HA.out (by simp [wF46.l0])
 | succ k1 =>
  have H := HA.out
  clear HA
  simp only [wF46.l0] at H
  by_cases c6 : x4_1 < (l0.length : Int)
  rotate_left
  ·
   rw [if_neg c6] at H
   have c6b0 := dF_ c6
   clear c6
   obtain rfl := Option.some.inj H
   go_wp2
   go_ret
   exact ⟨_, by rfl, by (with_reducible repeat (first | apply Kd.S_alloc | apply Kd.S_drewN | apply Kd.S_drew)); exact HO_3.out, by exact HB.out⟩
  rw [if_pos c6] at H
  have c6b0 := dT_ c6
  clear c6
  by_cases c7 : 0 ≤ x4_1
  rotate_left
  ·
   rw [if_neg c7] at H
   exact absurd H (by simp)
  rw [if_pos c7] at H
  have c7b0 := dT_ c7
  clear c7
  replace H := oB_.mp H
  obtain ⟨⟨t344, t345⟩, A80, H⟩ := H
  try dsimp only at H
  have A8 := aM_ A80
  clear A80
  by_cases c9 : x4_1 < (x3_1.length : Int)
  rotate_left
  ·
   rw [if_neg c9] at H
   exact absurd H (by simp)
  rw [if_pos c9] at H
  have c9b0 := dT_ c9
  clear c9
  obtain ⟨y348, hy348⟩ : ∃ y_ : List (S72), y_ = (x3_1.set (x4_1 : Int).toNat (⟨t344, t345⟩ : S72)) := ⟨_, rfl⟩
  replace H : (wF46.l0 k1 l0 y348 (wrap64 (x4_1 + 1))) = some r := by (try rw [hy348]); first | with_reducible exact H | with_reducible exact oS_ H | exact H
  have Ny348 := aM_ hy348
  clear hy348
  have H' := aM_ H
  clear H
  have p343 : 0 ≤ (x4_1 : Int) := oD_ ‹_›
  have q343 : x4_1 < (l0.length : Int) := oD_ ‹_›
  obtain ⟨ad343, A343_1, c343_1, e343, hx343_0, hx343_1, hl343_1, hi343_1⟩ := at_T90 HR0.out x4_1 p343 q343
  cases e343
  replace hx343_0 := cb_ HB hx343_0
  replace hx343_1 := cb_ HB hx343_1
  have HR343_1 := aM_ hi343_1
  have HC343_1 := aM_ hl343_1
  clear hi343_1 hl343_1
  replace p343 := eq_true p343
  replace q343 := eq_true q343
  go_wp2_with (first | (refine gs_ 20 Tryz.func80 #[.agg #[.bool ((rd_T90 l0 x4_1).f0), .slice A343_1 ((rd_T90 l0 x4_1).f1).length c343_1]] ?_; (with_reducible refine (wF45.calls k1 ((rd_T90 l0 x4_1).f0) _ _ ((rd_T90 l0 x4_1).f1) t344 t345 _ ?side1 HC343_1.out A8.out).mono ?_); (case side1 => repeat (first | exact (k4_ HR343_1.out HB.out) | with_reducible first | apply cA_ | apply cN_ | apply cD_)); rintro e w11 ⟨v346, rfl, ho0, hb⟩; refine ⟨_, rfl, ?_⟩; replace HO_3 := aM_ (Kd.S_elder' (by (with_reducible repeat (first | apply Kd.S_alloc | apply Kd.S_drewN | apply Kd.S_drew)); exact HO_3.out) (Kd.R_base ho0) hb); have HO347 := aM_ (k5_ ho0 (bZ_ HB.out)); replace HB := b4_ HB hb; (try clear hb); (try clear ho0); obtain ⟨Av_, cv_, ev_⟩ := kS_ HO347.out; subst ev_; have p10 : 0 ≤ (x4_1 : Int) := oD_ ‹_›; have q10 : (x4_1 : Int) < ((x3_1.length : Int) : Int) := oD_ ‹_›; obtain ⟨go10, co10, eo10, gb10, gl10, cl10, HG10⟩ := Kd.S_form HO_3.out (by omega); (cases eo10); have GB10 := aM_ gb10; have GG10 := aM_ HG10; clear gb10 gl10 HG10; obtain ⟨_, ce10, hcl10, hM10, hcc10, hfr10, _, _⟩ := Kd.S_elem HO_3.out z72 (x4_1 : Int) p10 q10; obtain ⟨ve10_1, rfl, ge10_1⟩ := k72_openM hM10; have hx10_0 : w11.cell? ⟨go10, (x4_1 : Int).toNat * 2, none⟩ = some (.bool ((rd_T72 x3_1 x4_1).f0)) := hcc10 0 _ rfl; have hx10_1 : w11.cell? ⟨go10, (x4_1 : Int).toNat * 2 + 1, none⟩ = some (ve10_1) := hcc10 1 _ rfl; have hf10_0 : w11.frozen? ⟨go10, (x4_1 : Int).toNat * 2, none⟩ = false := hfr10 0; have hf10_1 : w11.frozen? ⟨go10, (x4_1 : Int).toNat * 2 + 1, none⟩ = false := hfr10 1; clear hcl10 hcc10 hfr10 hM10; replace p10 := eq_true p10; replace q10 := eq_true q10; have n_ := aM_ (Kd.S_mono (ok' := (fun k_ => some k_ ≠ ((.slice Av_ t345.length cv_ : Value) : Value).ownBlock)) HO_3.out (fun k_ hk => hk.2)); clear HO_3; have HO_3 := n_; clear n_; have HX12 := aM_ (show Kd.S k72 72 w11 w.heap.size (fun k_ => ((fun _ => True)) k_ ∧ ¬ ((fun k_ => some k_ = ((.slice Av_ t345.length cv_ : Value) : Value).ownBlock)) k_) (.slice (some ⟨go10, 0, none⟩) x3_1.length co10) x3_1 from (by (with_reducible repeat (first | apply Kd.S_alloc | apply Kd.S_drewN | apply Kd.S_drew)); exact Kd.S_mono HO_3.out (fun k_ hk => ⟨trivial, fun e_ => hk e_⟩))); obtain ⟨oki12, ce12, hcl12, hM12, hcc12, hfr12, hoki12, hH12⟩ := Kd.S_elem HX12.out z72 (x4_1 : Int) (oD_ ‹_›) (by have h_ : (x4_1 : Int) < ((x3_1.length : Int) : Int) := oD_ ‹_›; exact h_); obtain ⟨ve12_1, rfl, ge12_1⟩ := k72_openM hM12; have HP12 := Kd.S_seg hH12 (oD_ ‹_›) (by have h_ : (x4_1 : Int) < ((x3_1.length : Int) : Int) := oD_ ‹_›; exact h_) (seg := [.bool t344, (.slice Av_ t345.length cv_ : Value)]) (j := 0) (show 2 ≤ 2 from by decide) (x' := (⟨t344, t345⟩ : S72)) (k72_mkM _ _ _ (⟨t344, t345⟩ : S72) (kM_ (Kd.R_tight rfl (kM_ (ok' := fun k_ => ((fun _ => True)) k_ ∧ k_ ≠ go10) (Kd.R_apart' (HO347.out) (Kd.S_typed HO_3.out) (by decide)) (fun k_ hk => ⟨trivial, fun e_ => (hk.2) (by rw [e_]; rfl)⟩))) (fun _ h_ => Or.inr (h_)))) (fun _ hk => hk) (fun k_ hk_ => ((kM_ (ok' := fun k_ => ((fun _ => True)) k_ ∧ k_ ≠ go10) (Kd.R_apart' (HO347.out) (Kd.S_typed HO_3.out) (by decide)) (fun k_ hk => ⟨trivial, fun e_ => (hk.2) (by rw [e_]; rfl)⟩))).1 k_ hk_.symm); have hx12_0 := hcc12 0 _ rfl; (try simp only [show (k72).sz = 2 from rfl, Nat.mul_one, Nat.add_zero] at hx12_0); have hf12_0 := hfr12 0; (try simp only [show (k72).sz = 2 from rfl, Nat.mul_one, Nat.add_zero] at hf12_0); have hx12_1 := hcc12 1 _ rfl; (try simp only [show (k72).sz = 2 from rfl, Nat.mul_one, Nat.add_zero] at hx12_1); have hf12_1 := hfr12 1; (try simp only [show (k72).sz = 2 from rfl, Nat.mul_one, Nat.add_zero] at hf12_1); clear hcl12 hcc12 hfr12 hM12 hoki12 hH12) | ((with_reducible refine gate_store (t := 72) (p := 21) rfl ?_); refine store_event (t := 72) (p := 21) (v := ?vo_w13) (w1 := ((w11.setCell ⟨go10, (x4_1 : Int).toNat * 2, none⟩ (.bool t344)).setCell ⟨go10, (x4_1 : Int).toNat * 2 + 1, none⟩ ((.slice Av_ t345.length cv_ : Value)))) ?hg ?ho ?hn ?hr ?_; (case ho => rfl); (case hg => rfl); (case hn => rfl); (case hr => (go_simp; done)); intro w13 hw; have hg : w11.grownBy w13 (some go10) := (by rw [hw]; exact HP12.2); have hp_ : Kd.S k72 72 w13 w.heap.size (fun _ => True) (.slice (some ⟨go10, 0, none⟩) x3_1.length co10) y348 := (by rw [hw, Ny348.out]; exact HP12.1); clear HP12; have n0_ := aM_ (hp_); have n1_ := aM_ ((by rw [hw]; exact bS_ (bS_ (HB.out) GB10.out) GB10.out : Below w.heap.size w w13)); clear HO_3; clear HB; clear HO347; have HO_3 := n0_; have HB := n1_; clear n0_ n1_; clear hg hw hp_))
  go_roundg k1
  case measure => have := HK1.out; omega
  case rel => exact ⟨(y348), (wrap64 (x4_1 + 1)), (by rfl), H', ⟨by have := HK1.out; omega⟩, ⟨by (with_reducible repeat (first | apply Kd.S_alloc | apply Kd.S_drewN | apply Kd.S_drew)); exact HO_3.out⟩, ⟨HB.out⟩⟩
def wF44.f (k : Nat) (l0_0 : List (S90)) : Option ((List (S72))) := (wF46.f k l0_0).bind fun t352 => (some t352)
theorem wF44.mono : ∀ a0 k, LeO (wF44.f k a0) (wF44.f (k + 1) a0) := by
 intro a0 k
 unfold wF44.f
 repeat' with_reducible first | exact wF46.mono _ _ | exact l3_ _ | exact l0_ _ | refine l2_ ?_ ?_ | refine l1_ ?_ (fun _ => ?_)
theorem wF44.calls (k : Nat) (A0_0 : Option Addr) (c0_0 : Nat) (l0_0 : List (S90)) (r : List (S72)) (w : World) (hr0_0 : Kd.C k90 w A0_0 l0_0.length l0_0) (hc0_0 : l0_0.length ≤ c0_0) (h : wF44.f k l0_0 = some r) :
  Calls Tryz.prog 15 #[.agg #[.slice A0_0 l0_0.length c0_0]] w fun e w' => ∃ v0_ : Value, e = .returned (.agg #[v0_]) ∧ Kd.S k72 72 w' w.heap.size (fun _ => True) v0_ r ∧ Below w.heap.size w w' := by
 have hu24 := Tryz.underlying24
 have hu33 := Tryz.underlying33
 have HR0_0 := aM_ hr0_0
 have HC0_0 := aM_ hc0_0
 clear hr0_0 hc0_0
 have HB := aM_ (Below.refl w.heap.size w)
 have H : ((wF46.f k l0_0).bind fun t352 => (some t352)) = some r := h
 clear h
 replace H := oB_.mp H
 obtain ⟨t352, A20, H⟩ := H
 try dsimp only at H
 have A2 := aM_ A20
 clear A20
 obtain rfl := Option.some.inj H
 go_enter Tryz.func15, Tryz.ntmps15
 go_wp2_with (first | (refine bx_ 1 #[.slice A0_0 l0_0.length c0_0] 24 ?_; intro gb349 hg w3 hbox hb; have BK349 := aM_ (hbox); have GW349 := gw_ hg HB; replace HB := b4_ HB hb; clear hb hbox hg) | (refine bx_ 2 #[.slice none 0 0] 33 ?_; intro gb350 hg w4 hbox hb; have BK350 := aM_ (hbox); have GW350 := gw_ hg HB; replace HB := b4_ HB hb; have NB349_350 := nb_ hg BK349; have NB350_349 := ns_ NB349_350; replace BK349 := b5_ BK349 hb; clear hb hbox hg) | (refine bx_ 3 #[.slice none 0 0] 33 ?_; intro gb351 hg w5 hbox hb; have BK351 := aM_ (hbox); have GW351 := gw_ hg HB; replace HB := b4_ HB hb; have NB349_351 := nb_ hg BK349; have NB351_349 := ns_ NB349_351; replace BK349 := b5_ BK349 hb; have NB350_351 := nb_ hg BK350; have NB351_350 := ns_ NB350_351; replace BK350 := b5_ BK350 hb; clear hb hbox hg; have hnb6 := NB349_350.out; have hnc6 := NB350_349.out; have hnb7 := NB349_351.out; have hnc7 := NB351_349.out; have hcz8_0 := c0_ BK349; have hfz8_0 := bF_ BK349.out 0) | (refine gs_ 6 Tryz.func50 #[.slice A0_0 l0_0.length c0_0] ?_; (with_reducible refine (wF46.calls k _ _ l0_0 t352 _ ?side1 HC0_0.out A2.out).mono ?_); (case side1 => repeat (first | exact (k4_ HR0_0.out HB.out) | with_reducible first | apply cA_ | apply cN_ | apply cD_)); rintro e w9 ⟨v353, rfl, ho0, hb⟩; refine ⟨_, rfl, ?_⟩; have HO354 := aM_ (Kd.S_lower ho0 (bZ_ HB.out)); replace BK349 := b5_ BK349 hb; replace BK350 := b5_ BK350 hb; replace BK351 := b5_ BK351 hb; replace HB := b4_ HB hb; (try clear hb); (try clear ho0); obtain ⟨Ao10, co10, eo10⟩ := Kd.S_slice HO354.out; subst eo10; have hnb11 := NB351_350.out; have hnc11 := NB350_351.out; have hcz12_0 := c0_ BK351; have hfz12_0 := bF_ BK351.out 0; have hcz13_0 := c0_ BK350; have hfz13_0 := bF_ BK350.out 0))
 refine bodyPost_ret (results_cell_row rfl _ _ gb350 33 #[.slice Ao10 t352.length co10] (0, 0) _ rfl (by refine bP_ (cs := #[.slice none 0 0]) ?_ 0 _ rfl; exact br_ NB350_351.out (BK350.out)) Tryz.underlying33 rfl (by kernel_rfl)) rfl ?_
 exact ⟨_, by rfl, by (with_reducible repeat (first | apply Kd.S_alloc | apply Kd.S_drewN | apply Kd.S_drew)); exact Kd.S_mono (Kd.S_far (p := ⟨gb350, 0, none⟩) (Kd.S_far (p := ⟨gb351, 0, none⟩) (Kd.S_types (Kd.S_types HO354.out BK351.out (by decide)) BK350.out (by decide)) (fun _ hk => hk.1.2) (.slice Ao10 t352.length co10)) (fun _ hk => hk.2) (.slice Ao10 t352.length co10)) (fun _ hk => trivial), by repeat with_reducible first | exact HB.out | apply bA_ | apply bN_ | apply bD_ | refine bS_ ?_ (Aside0.out ‹_›)⟩
def wF30.f (a0_0 a0_1 a1_0 a1_1 : Int) : Option Bool := some (decide (a0_0 = a1_0 ∧ a0_1 = a1_1))
set_option maxHeartbeats 2000000 in
theorem wF30.calls (a0_0 a0_1 a1_0 a1_1 : Int) (r : Bool) (w : World) (h : wF30.f a0_0 a0_1 a1_0 a1_1 = some r) :
  Calls Tryz.prog 126 #[.agg #[.int .i64 a0_0, .int .i64 a0_1], .agg #[.int .i64 a1_0, .int .i64 a1_1]] w fun e w' => e = .returned (.bool r) ∧ Below w.heap.size w w' := by
 obtain rfl := Option.some.inj h
 clear h
 obtain ⟨W, hW⟩ : ∃ W, W = (w.alloc (.cells #[.int .i64 a0_0, .int .i64 a0_1] 88)).alloc (.cells #[.int .i64 a1_0, .int .i64 a1_1] 88) := ⟨_, rfl⟩
 have HW1 := aM_ ((Below.refl w.heap.size w).alloc (Nat.le_refl _) (.cells #[.int .i64 a0_0, .int .i64 a0_1] 88))
 have HW2 := aM_ (HW1.out.alloc (by simp) (.cells #[.int .i64 a1_0, .int .i64 a1_1] 88))
 have c0 := aM_ (show W.cell? ⟨w.heap.size, 0, none⟩ = some (.int .i64 a0_0) from by rw [hW]; simp)
 have c1 := aM_ (show W.cell? ⟨w.heap.size, 1, none⟩ = some (.int .i64 a0_1) from by rw [hW]; simp)
 have c2 := aM_ (show W.cell? ⟨w.heap.size + 1, 0, none⟩ = some (.int .i64 a1_0) from by rw [hW]; simp)
 have c3 := aM_ (show W.cell? ⟨w.heap.size + 1, 1, none⟩ = some (.int .i64 a1_1) from by rw [hW]; simp)
 have hs := aM_ (show w.heap.size + 1 < W.heap.size from by rw [hW]; simp)
 go_enter Tryz.func126, Tryz.ntmps126
 go_wp2_with fail
 rw [← hW]
 rw [← hW] at HW2
 clear hW
 go_loopg [5] 2 (fun gg s5 wr => ∃ i : Nat, i ≤ 2 ∧ 2 - i ≤ gg ∧ s5 = .int .i64 i ∧ Aside0 (Below W.heap.size W wr) ∧ Aside0 (0 < i → a0_0 = a1_0) ∧ Aside0 (1 < i → a0_1 = a1_1))
 case atStart => exact ⟨0, by omega, by omega, rfl, ⟨Below.refl _ _⟩, ⟨fun h => absurd h (by omega)⟩, ⟨fun h => absurd h (by omega)⟩⟩
 obtain ⟨i, hi, hg, rfl, HB, E0, E1⟩ := hrel
 have d0 := (HB.out.cell (p := ⟨w.heap.size, 0, none⟩) (by have := hs.out; simp; omega)).trans c0.out
 have d1 := (HB.out.cell (p := ⟨w.heap.size, 1, none⟩) (by have := hs.out; simp; omega)).trans c1.out
 have d2 := (HB.out.cell (p := ⟨w.heap.size + 1, 0, none⟩) hs.out).trans c2.out
 have d3 := (HB.out.cell (p := ⟨w.heap.size + 1, 1, none⟩) hs.out).trans c3.out
 obtain rfl | rfl | rfl : i = 0 ∨ i = 1 ∨ i = 2 := by omega
 ·
  by_cases he : a0_0 = a1_0
  ·
   have HE := aM_ he
   have e9 : (a0_0 != a1_0) = false := bne_eq_false_iff_eq.mpr he
   have e8 : (a0_0 == a1_0) = true := beq_iff_eq.mpr he
   clear he
   go_wp2_with fail
   go_quiet (fail)
   go_wp2_with fail
   go_roundg 1
   case measure => omega
   case rel => exact ⟨1, by omega, by omega, by go_num, ⟨by exact bN_ HB.out _⟩, ⟨fun _ => HE.out⟩, ⟨fun h => absurd h (by omega)⟩⟩
  have HE := aM_ he
  have e9 : (a0_0 != a1_0) = true := bne_iff_ne.mpr he
  have e8 : (a0_0 == a1_0) = false := beq_eq_false_iff_ne.mpr he
  go_wp2_with fail
  go_quiet (fail)
  go_wp2_with fail
  go_ret
  exact ⟨by rw [show decide (a0_0 = a1_0 ∧ a0_1 = a1_1) = false from decide_eq_false fun h => HE.out h.1]; rfl, HW2.out.trans (((by exact bN_ HB.out _) : Below W.heap.size W _).mono HW2.out.size)⟩
 ·
  by_cases he : a0_1 = a1_1
  ·
   have HE := aM_ he
   have e9 : (a0_1 != a1_1) = false := bne_eq_false_iff_eq.mpr he
   have e8 : (a0_1 == a1_1) = true := beq_iff_eq.mpr he
   clear he
   go_wp2_with fail
   go_quiet (fail)
   go_wp2_with fail
   go_roundg 0
   case measure => omega
   case rel => exact ⟨2, by omega, by omega, by go_num, ⟨by exact bN_ HB.out _⟩, ⟨fun _ => E0.out (by omega)⟩, ⟨fun _ => HE.out⟩⟩
  have HE := aM_ he
  have e9 : (a0_1 != a1_1) = true := bne_iff_ne.mpr he
  have e8 : (a0_1 == a1_1) = false := beq_eq_false_iff_ne.mpr he
  go_wp2_with fail
  go_quiet (fail)
  go_wp2_with fail
  go_ret
  exact ⟨by rw [show decide (a0_0 = a1_0 ∧ a0_1 = a1_1) = false from decide_eq_false fun h => HE.out h.2]; rfl, HW2.out.trans (((by exact bN_ HB.out _) : Below W.heap.size W _).mono HW2.out.size)⟩
 go_wp2_with fail
 go_ret
 exact ⟨by rw [show decide (a0_0 = a1_0 ∧ a0_1 = a1_1) = true from decide_eq_true ⟨E0.out (by omega), E1.out (by omega)⟩]; rfl, HW2.out.trans (HB.out.mono HW2.out.size)⟩
def wF31.l0 : Nat → List (S88) → List (S88) → Int → Option (Bool)
 | 0, _, _, _ => none
 | k + 1, x0, x1, x5 => if x5 < (x0.length : Int) then (if 0 ≤ x5 then (if x5 < (x1.length : Int) then ((wF30.f ((rd_T88 x0 x5).f0) ((rd_T88 x0 x5).f1) ((rd_T88 x1 x5).f0) ((rd_T88 x1 x5).f1)).bind fun t480 => (if t480 = true then (wF31.l0 k x0 x1 (wrap64 (x5 + 1))) else (some false))) else (none)) else (none)) else (some true)
def wF31.f (k : Nat) (l0 : List (S88)) (l1 : List (S88)) : Option (Bool) := if (l0.length : Int) = (l1.length : Int) then (wF31.l0 k l0 l1 0) else (some false)
theorem wF31.mono_l : ∀ k, (∀ y0 y1 y2, LeO (wF31.l0 k y0 y1 y2) (wF31.l0 (k + 1) y0 y1 y2))
 | 0 => fun _ _ _ r h => by simp [wF31.l0] at h
 | k + 1 => by
  have ih0 := wF31.mono_l k
  intro y0 y1 y2
  unfold wF31.l0
  repeat' with_reducible first | exact ih0 _ _ _ | exact l3_ _ | exact l0_ _ | refine l2_ ?_ ?_ | refine l1_ ?_ (fun _ => ?_)
theorem wF31.mono : ∀ a0 a1 k, LeO (wF31.f k a0 a1) (wF31.f (k + 1) a0 a1) := by
 intro a0 a1 k
 have ih0 := wF31.mono_l k
 unfold wF31.f
 repeat' with_reducible first | exact ih0 _ _ _ | exact l3_ _ | exact l0_ _ | refine l2_ ?_ ?_ | refine l1_ ?_ (fun _ => ?_)
def wF31.T6 : Bool × List (List Nat × List Nat) := (true, [([], []), ([], []), ([0, 1], [0, 1]), ([2], [2]), ([], []), ([], []), ([4, 5], [4, 5]), ([6], [6]), ([3, 7], [3, 7]), ([8], [8])])
def wF31.B6 : List Nat := [0, 0, 3, 7, 0, 0, 48, 112, 255, 511]
theorem wF31.tab6 : rtab .any (opsOf Tryz.f110 6) = wF31.T6 := by kernel_rfl
theorem wF31.bits6 : waitsOk wF31.T6.2 wF31.B6 = true := by kernel_rfl
theorem wF31.calls (k : Nat) (A0 : Option Addr) (c0 : Nat) (l0 : List (S88)) (A1 : Option Addr) (c1 : Nat) (l1 : List (S88)) (r : Bool) (w : World) (hr0 : Kd.C k88 w A0 l0.length l0) (hc0 : l0.length ≤ c0) (hr1 : Kd.C k88 w A1 l1.length l1) (hc1 : l1.length ≤ c1) (h : wF31.f k l0 l1 = some r) :
  Calls Tryz.prog 110 #[.slice A0 l0.length c0, .slice A1 l1.length c1] w fun e w' => e = .returned (.bool r) ∧ Below w.heap.size w w' := by
 have hu88 := Tryz.underlying88
 have HR0 := aM_ hr0
 have HC0 := aM_ hc0
 clear hr0 hc0
 have HR1 := aM_ hr1
 have HC1 := aM_ hc1
 clear hr1 hc1
 have HB := aM_ (Below.refl w.heap.size w)
 have H : (if (l0.length : Int) = (l1.length : Int) then (wF31.l0 k l0 l1 0) else (some false)) = some r := h
 clear h
 by_cases c3 : (l0.length : Int) = (l1.length : Int)
 rotate_left
 ·
  rw [if_neg c3] at H
  have c3b0 : ((l0.length : Int) == (l1.length : Int)) = false := beq_eq_false_iff_ne.mpr c3
  have c3b1 : ((l0.length : Int) != (l1.length : Int)) = true := bne_iff_ne.mpr c3
  have c3b2 : (l0.length == l1.length) = false := by first | simpa using c3 | (simp at c3 ⊢; omega)
  obtain rfl := Option.some.inj H
  go_enter Tryz.func110, Tryz.ntmps110
  go_wp2
  go_ret
  exact ⟨by rfl, by exact HB.out⟩
 rw [if_pos c3] at H
 have c3b0 : ((l0.length : Int) == (l1.length : Int)) = true := beq_iff_eq.mpr c3
 have c3b1 : ((l0.length : Int) != (l1.length : Int)) = false := bne_eq_false_iff_eq.mpr c3
 have c3b2 : (l0.length == l1.length) = true := by first | simpa using c3 | (simp at c3 ⊢; omega)
 clear c3
 have H' := aM_ H
 clear H
 go_enter Tryz.func110, Tryz.ntmps110
 go_wp2
 go_loopg [5] k (fun kq v5 w' => ∃ (x5_1 : Int), v5 = .int .i64 x5_1 ∧ Aside0 (wF31.l0 kq l0 l1 x5_1 = some r) ∧ Aside0 (kq ≤ k) ∧ Aside0 (Below w.heap.size w w'))
 case atStart => exact ⟨(0), (by rfl), H', ⟨Nat.le_refl _⟩, ⟨HB.out⟩⟩
 clear H'
 try clear p2
 try clear c3b0
 try clear c3b1
 try clear c3b2
 obtain ⟨x5_1, rfl, HA, HK1, HB⟩ := hrel
 cases gk with
 | zero => exact absurd HA.out (by simp [wF31.l0])
 | succ k1 =>
  have H := HA.out
  clear HA
  simp only [wF31.l0] at H
  by_cases c4 : x5_1 < (l0.length : Int)
  rotate_left
  ·
   rw [if_neg c4] at H
   have c4b0 := dF_ c4
   clear c4
   obtain rfl := Option.some.inj H
   go_wp2
   go_ret
   exact ⟨by rfl, by exact HB.out⟩
  rw [if_pos c4] at H
  have c4b0 := dT_ c4
  clear c4
  by_cases c5 : 0 ≤ x5_1
  rotate_left
  ·
   rw [if_neg c5] at H
   exact absurd H (by simp)
  rw [if_pos c5] at H
  have c5b0 := dT_ c5
  clear c5
  by_cases c6 : x5_1 < (l1.length : Int)
  rotate_left
  ·
   rw [if_neg c6] at H
   exact absurd H (by simp)
  rw [if_pos c6] at H
  have c6b0 := dT_ c6
  clear c6
  replace H := oB_.mp H
  obtain ⟨t480, A70, H⟩ := H
  try dsimp only at H
  have A7 := aM_ A70
  clear A70
  by_cases c8 : t480 = true
  ·
   subst c8
   rw [if_pos rfl] at H
   have H' := aM_ H
   clear H
   try go_wp2
   replace HB := aM_ (bD_ HB.out)
   have p478 : 0 ≤ (x5_1 : Int) := oD_ ‹_›
   have q478 : x5_1 < (l0.length : Int) := oD_ ‹_›
   obtain ⟨ad478, e478, hx478_0, hx478_1⟩ := at_T88 HR0.out x5_1 p478 q478
   have hw478_1 := hx478_1
   have hw478_0 := hx478_0
   cases e478
   replace hx478_0 := cb_ HB hx478_0
   replace hx478_1 := cb_ HB hx478_1
   replace p478 := eq_true p478
   replace q478 := eq_true q478
   have p479 : 0 ≤ (x5_1 : Int) := oD_ ‹_›
   have q479 : x5_1 < (l1.length : Int) := oD_ ‹_›
   obtain ⟨ad479, e479, hx479_0, hx479_1⟩ := at_T88 HR1.out x5_1 p479 q479
   have hw479_1 := hx479_1
   have hw479_0 := hx479_0
   cases e479
   replace hx479_0 := cb_ HB hx479_0
   replace hx479_1 := cb_ HB hx479_1
   replace p479 := eq_true p479
   replace q479 := eq_true q479
   refine start_ (n := 10) (S := fun w' => w'.cell? (ad478.add ((x5_1).toNat * 2)) = some (.int .i64 ((rd_T88 l0 x5_1).f0)) ∧ w'.cell? ⟨(ad478.add ((x5_1).toNat * 2)).block, (ad478.add ((x5_1).toNat * 2)).off + 1, none⟩ = some (.int .i64 ((rd_T88 l0 x5_1).f1)) ∧ w'.cell? (ad479.add ((x5_1).toNat * 2)) = some (.int .i64 ((rd_T88 l1 x5_1).f0)) ∧ w'.cell? ⟨(ad479.add ((x5_1).toNat * 2)).block, (ad479.add ((x5_1).toNat * 2)).off + 1, none⟩ = some (.int .i64 ((rd_T88 l1 x5_1).f1))) (ds := []) #[fy, fy, fy, fy, fy, fy, fy, fy, fy, fy] (by kernel_rfl) rfl rfl ⟨(cb_ HB hw478_0), (cb_ HB hw478_1), (cb_ HB hw479_0), (cb_ HB hw479_1)⟩ (fun hHeld => ?_); refine with_tabW wF31.tab6 wF31.bits6 (fun HT_ HW_ => ?_)
   generalize wr.drew = w9 at HB hx478_0 hx478_1 hx479_0 hx479_1 hHeld ⊢
   refine pu_ HT_ 0 17 #[ty, fy, fy, fy, fy, fy, fy, fy, fy, fy] ?_
   refine pu_ HT_ 1 18 #[ty, ty, fy, fy, fy, fy, fy, fy, fy, fy] ?_
   refine pu_ HT_ 2 19 #[ty, ty, ty, fy, fy, fy, fy, fy, fy, fy] ?_
   refine pu_ HT_ 4 21 #[ty, ty, ty, fy, ty, fy, fy, fy, fy, fy] ?_
   refine pu_ HT_ 5 22 #[ty, ty, ty, fy, ty, ty, fy, fy, fy, fy] ?_
   refine pu_ HT_ 6 23 #[ty, ty, ty, fy, ty, ty, ty, fy, fy, fy] ?_
   refine tk_ HT_ HW_ 3 20 #[ty, ty, ty, ty, ty, ty, ty, fy, fy, fy] hHeld ?_ (hr := by rintro w' ⟨s0, s1, s2, s3⟩; go_simp; with_reducible rfl)
   refine tk_ HT_ HW_ 7 24 #[ty, ty, ty, ty, ty, ty, ty, ty, fy, fy] hHeld ?_ (hr := by rintro w' ⟨s0, s1, s2, s3⟩; go_simp; with_reducible rfl)
   refine one_ (i := 8) (N := some 25) #[ty, ty, ty, ty, ty, ty, ty, ty, ty, fy] rfl rfl (one_of HT_.out (by kernel_rfl)) (by decide) (fun K hK => ?_)
   refine goes_ Tryz.func126 (by kernel_rfl) rfl #[.agg #[.int .i64 ((rd_T88 l0 x5_1).f0), .int .i64 ((rd_T88 l0 x5_1).f1)], .agg #[.int .i64 ((rd_T88 l1 x5_1).f0), .int .i64 ((rd_T88 l1 x5_1).f1)]] (by rfl) rfl rfl (by (try simp only [sD_, sE_, sF_]); rfl) ?_
   with_reducible refine (wF30.calls ((rd_T88 l0 x5_1).f0) ((rd_T88 l0 x5_1).f1) ((rd_T88 l1 x5_1).f0) ((rd_T88 l1 x5_1).f1) true _ A7.out).mono ?_
   rintro e w10 ⟨rfl, hb⟩
   refine ⟨_, rfl, ?_⟩
   replace HB := b4_ HB hb
   (try clear hb)
   refine hK.out _ _ ⟨(cb_ HB hw478_0), (cb_ HB hw478_1), (cb_ HB hw479_0), (cb_ HB hw479_1)⟩ (fun hHeld => ?_)
   clear hK K
   refine norm_ (by show Act.put _ (some 25) _ = _; simp only [Act.put, sA_, sB_, sC_, i6_, i3_]; rfl) ?_
   refine pu_ HT_ 9 26 #[ty, ty, ty, ty, ty, ty, ty, ty, ty, ty] ?_
   refine done_ (done_of HT_.out (by kernel_rfl)) ?_
   try go_wp2
   go_roundg k1
   case measure => have := HK1.out; omega
   case rel => exact ⟨(wrap64 (x5_1 + 1)), (by rfl), H', ⟨by have := HK1.out; omega⟩, ⟨HB.out⟩⟩
  replace c8 := Bool.eq_false_iff.mpr c8
  subst c8
  replace H : (some false) = some r := by rw [if_neg (show ¬ (false = true) by decide)] at H; exact H
  obtain rfl := Option.some.inj H
  try go_wp2
  replace HB := aM_ (bD_ HB.out)
  have p478 : 0 ≤ (x5_1 : Int) := oD_ ‹_›
  have q478 : x5_1 < (l0.length : Int) := oD_ ‹_›
  obtain ⟨ad478, e478, hx478_0, hx478_1⟩ := at_T88 HR0.out x5_1 p478 q478
  have hw478_1 := hx478_1
  have hw478_0 := hx478_0
  cases e478
  replace hx478_0 := cb_ HB hx478_0
  replace hx478_1 := cb_ HB hx478_1
  replace p478 := eq_true p478
  replace q478 := eq_true q478
  have p479 : 0 ≤ (x5_1 : Int) := oD_ ‹_›
  have q479 : x5_1 < (l1.length : Int) := oD_ ‹_›
  obtain ⟨ad479, e479, hx479_0, hx479_1⟩ := at_T88 HR1.out x5_1 p479 q479
  have hw479_1 := hx479_1
  have hw479_0 := hx479_0
  cases e479
  replace hx479_0 := cb_ HB hx479_0
  replace hx479_1 := cb_ HB hx479_1
  replace p479 := eq_true p479
  replace q479 := eq_true q479
  refine start_ (n := 10) (S := fun w' => w'.cell? (ad478.add ((x5_1).toNat * 2)) = some (.int .i64 ((rd_T88 l0 x5_1).f0)) ∧ w'.cell? ⟨(ad478.add ((x5_1).toNat * 2)).block, (ad478.add ((x5_1).toNat * 2)).off + 1, none⟩ = some (.int .i64 ((rd_T88 l0 x5_1).f1)) ∧ w'.cell? (ad479.add ((x5_1).toNat * 2)) = some (.int .i64 ((rd_T88 l1 x5_1).f0)) ∧ w'.cell? ⟨(ad479.add ((x5_1).toNat * 2)).block, (ad479.add ((x5_1).toNat * 2)).off + 1, none⟩ = some (.int .i64 ((rd_T88 l1 x5_1).f1))) (ds := []) #[fy, fy, fy, fy, fy, fy, fy, fy, fy, fy] (by kernel_rfl) rfl rfl ⟨(cb_ HB hw478_0), (cb_ HB hw478_1), (cb_ HB hw479_0), (cb_ HB hw479_1)⟩ (fun hHeld => ?_); refine with_tabW wF31.tab6 wF31.bits6 (fun HT_ HW_ => ?_)
  generalize wr.drew = w11 at HB hx478_0 hx478_1 hx479_0 hx479_1 hHeld ⊢
  refine pu_ HT_ 0 17 #[ty, fy, fy, fy, fy, fy, fy, fy, fy, fy] ?_
  refine pu_ HT_ 1 18 #[ty, ty, fy, fy, fy, fy, fy, fy, fy, fy] ?_
  refine pu_ HT_ 2 19 #[ty, ty, ty, fy, fy, fy, fy, fy, fy, fy] ?_
  refine pu_ HT_ 4 21 #[ty, ty, ty, fy, ty, fy, fy, fy, fy, fy] ?_
  refine pu_ HT_ 5 22 #[ty, ty, ty, fy, ty, ty, fy, fy, fy, fy] ?_
  refine pu_ HT_ 6 23 #[ty, ty, ty, fy, ty, ty, ty, fy, fy, fy] ?_
  refine tk_ HT_ HW_ 3 20 #[ty, ty, ty, ty, ty, ty, ty, fy, fy, fy] hHeld ?_ (hr := by rintro w' ⟨s0, s1, s2, s3⟩; go_simp; with_reducible rfl)
  refine tk_ HT_ HW_ 7 24 #[ty, ty, ty, ty, ty, ty, ty, ty, fy, fy] hHeld ?_ (hr := by rintro w' ⟨s0, s1, s2, s3⟩; go_simp; with_reducible rfl)
  refine one_ (i := 8) (N := some 25) #[ty, ty, ty, ty, ty, ty, ty, ty, ty, fy] rfl rfl (one_of HT_.out (by kernel_rfl)) (by decide) (fun K hK => ?_)
  refine goes_ Tryz.func126 (by kernel_rfl) rfl #[.agg #[.int .i64 ((rd_T88 l0 x5_1).f0), .int .i64 ((rd_T88 l0 x5_1).f1)], .agg #[.int .i64 ((rd_T88 l1 x5_1).f0), .int .i64 ((rd_T88 l1 x5_1).f1)]] (by rfl) rfl rfl (by (try simp only [sD_, sE_, sF_]); rfl) ?_
  with_reducible refine (wF30.calls ((rd_T88 l0 x5_1).f0) ((rd_T88 l0 x5_1).f1) ((rd_T88 l1 x5_1).f0) ((rd_T88 l1 x5_1).f1) false _ A7.out).mono ?_
  rintro e w12 ⟨rfl, hb⟩
  refine ⟨_, rfl, ?_⟩
  replace HB := b4_ HB hb
  (try clear hb)
  refine hK.out _ _ ⟨(cb_ HB hw478_0), (cb_ HB hw478_1), (cb_ HB hw479_0), (cb_ HB hw479_1)⟩ (fun hHeld => ?_)
  clear hK K
  refine norm_ (by show Act.put _ (some 25) _ = _; simp only [Act.put, sA_, sB_, sC_, i6_, i3_]; rfl) ?_
  refine pu_ HT_ 9 26 #[ty, ty, ty, ty, ty, ty, ty, ty, ty, ty] ?_
  refine done_ (done_of HT_.out (by kernel_rfl)) ?_
  try go_wp2
  go_ret
  exact ⟨by rfl, by exact HB.out⟩
def wF33.f (k : Nat) (a0_0 : Bool) (l0_1 : List (S88)) (a1_0 : Bool) (l1_1 : List (S88)) : Option (Bool) := if (a0_0 != a1_0) = true then (some false) else ((wF31.f k l0_1 l1_1).bind fun t483 => (if t483 = true then (some true) else (some false)))
theorem wF33.mono : ∀ a0 a1 a2 a3 k, LeO (wF33.f k a0 a1 a2 a3) (wF33.f (k + 1) a0 a1 a2 a3) := by
 intro a0 a1 a2 a3 k
 unfold wF33.f
 repeat' with_reducible first | exact wF31.mono _ _ _ | exact l3_ _ | exact l0_ _ | refine l2_ ?_ ?_ | refine l1_ ?_ (fun _ => ?_)
theorem wF33.calls (k : Nat) (a0_0 : Bool) (A0_1 : Option Addr) (c0_1 : Nat) (l0_1 : List (S88)) (a1_0 : Bool) (A1_1 : Option Addr) (c1_1 : Nat) (l1_1 : List (S88)) (r : Bool) (w : World) (hr0_1 : Kd.C k88 w A0_1 l0_1.length l0_1) (hc0_1 : l0_1.length ≤ c0_1) (hr1_1 : Kd.C k88 w A1_1 l1_1.length l1_1) (hc1_1 : l1_1.length ≤ c1_1) (h : wF33.f k a0_0 l0_1 a1_0 l1_1 = some r) :
  Calls Tryz.prog 86 #[.agg #[.bool a0_0, .slice A0_1 l0_1.length c0_1], .agg #[.bool a1_0, .slice A1_1 l1_1.length c1_1]] w fun e w' => e = .returned (.bool r) ∧ Below w.heap.size w w' := by
 have hu72 := Tryz.underlying72
 have HR0_1 := aM_ hr0_1
 have HC0_1 := aM_ hc0_1
 clear hr0_1 hc0_1
 have HR1_1 := aM_ hr1_1
 have HC1_1 := aM_ hc1_1
 clear hr1_1 hc1_1
 have HB := aM_ (Below.refl w.heap.size w)
 have H : (if (a0_0 != a1_0) = true then (some false) else ((wF31.f k l0_1 l1_1).bind fun t483 => (if t483 = true then (some true) else (some false)))) = some r := h
 clear h
 by_cases c3 : (a0_0 != a1_0) = true
 ·
  rw [if_pos c3] at H
  have c3b0 : (a0_0 != a1_0) = true := c3
  (try (have c3b1 : decide (a0_0 = a1_0) = false := by simpa using c3))
  (try (have c3b2 : (a0_0 == a1_0) = false := by simpa using c3))
  (try (have c3b3 : ¬ (a0_0 = a1_0) := by simpa using c3))
  clear c3
  obtain rfl := Option.some.inj H
  go_enter Tryz.func86, Tryz.ntmps86
  go_wp2_with (first | (refine bx_ 2 #[.bool a0_0, .slice A0_1 l0_1.length c0_1] 72 ?_; intro gb481 hg w4 hbox hb; have BK481 := aM_ (hbox); have GW481 := gw_ hg HB; replace HB := b4_ HB hb; clear hb hbox hg) | (refine bx_ 3 #[.bool a1_0, .slice A1_1 l1_1.length c1_1] 72 ?_; intro gb482 hg w5 hbox hb; have BK482 := aM_ (hbox); have GW482 := gw_ hg HB; replace HB := b4_ HB hb; have NB481_482 := nb_ hg BK481; have NB482_481 := ns_ NB481_482; replace BK481 := b5_ BK481 hb; clear hb hbox hg; have hnb6 := NB481_482.out; have hnc6 := NB482_481.out; have hcz7_0 := c0_ BK481; have hcz7_1 := c1_ BK481; have hfz7_0 := bF_ BK481.out 0; have hfz7_1 := bF_ BK481.out 1; have hcz8_0 := c0_ BK482; have hcz8_1 := c1_ BK482; have hfz8_0 := bF_ BK482.out 0; have hfz8_1 := bF_ BK482.out 1))
  go_ret
  exact ⟨by rfl, by exact HB.out⟩
 rw [if_neg c3] at H
 have c3b0 : (a0_0 != a1_0) = false := by simpa using c3
 (try (have c3b1 : decide (a0_0 = a1_0) = true := by simpa using c3))
 (try (have c3b2 : (a0_0 == a1_0) = true := by simpa using c3))
 clear c3
 replace H := oB_.mp H
 obtain ⟨t483, A90, H⟩ := H
 try dsimp only at H
 have A9 := aM_ A90
 clear A90
 by_cases c10 : t483 = true
 ·
  subst c10
  rw [if_pos rfl] at H
  obtain rfl := Option.some.inj H
  go_enter Tryz.func86, Tryz.ntmps86
  go_wp2_with (first | (refine bx_ 2 #[.bool a0_0, .slice A0_1 l0_1.length c0_1] 72 ?_; intro gb481 hg w11 hbox hb; have BK481 := aM_ (hbox); have GW481 := gw_ hg HB; replace HB := b4_ HB hb; clear hb hbox hg) | (refine bx_ 3 #[.bool a1_0, .slice A1_1 l1_1.length c1_1] 72 ?_; intro gb482 hg w12 hbox hb; have BK482 := aM_ (hbox); have GW482 := gw_ hg HB; replace HB := b4_ HB hb; have NB481_482 := nb_ hg BK481; have NB482_481 := ns_ NB481_482; replace BK481 := b5_ BK481 hb; clear hb hbox hg; have hnb13 := NB481_482.out; have hnc13 := NB482_481.out; have hcz14_0 := c0_ BK481; have hcz14_1 := c1_ BK481; have hfz14_0 := bF_ BK481.out 0; have hfz14_1 := bF_ BK481.out 1; have hcz15_0 := c0_ BK482; have hcz15_1 := c1_ BK482; have hfz15_0 := bF_ BK482.out 0; have hfz15_1 := bF_ BK482.out 1) | (refine gs_ 14 Tryz.func110 #[.slice A0_1 l0_1.length c0_1, .slice A1_1 l1_1.length c1_1] ?_; (with_reducible refine (wF31.calls k _ _ l0_1 _ _ l1_1 true _ ?side1 HC0_1.out ?side3 HC1_1.out A9.out).mono ?_); (case side1 => repeat (first | exact (k4_ HR0_1.out HB.out) | with_reducible first | apply cA_ | apply cN_ | apply cD_)); (case side3 => repeat (first | exact (k4_ HR1_1.out HB.out) | with_reducible first | apply cA_ | apply cN_ | apply cD_)); rintro e w16 ⟨rfl, hb⟩; refine ⟨_, rfl, ?_⟩; replace BK481 := b5_ BK481 hb; replace BK482 := b5_ BK482 hb; replace HB := b4_ HB hb; (try clear hb)))
  go_ret
  exact ⟨by rfl, by exact HB.out⟩
 replace c10 := Bool.eq_false_iff.mpr c10
 subst c10
 replace H : (some false) = some r := by rw [if_neg (show ¬ (false = true) by decide)] at H; exact H
 obtain rfl := Option.some.inj H
 go_enter Tryz.func86, Tryz.ntmps86
 go_wp2_with (first | (refine bx_ 2 #[.bool a0_0, .slice A0_1 l0_1.length c0_1] 72 ?_; intro gb481 hg w17 hbox hb; have BK481 := aM_ (hbox); have GW481 := gw_ hg HB; replace HB := b4_ HB hb; clear hb hbox hg) | (refine bx_ 3 #[.bool a1_0, .slice A1_1 l1_1.length c1_1] 72 ?_; intro gb482 hg w18 hbox hb; have BK482 := aM_ (hbox); have GW482 := gw_ hg HB; replace HB := b4_ HB hb; have NB481_482 := nb_ hg BK481; have NB482_481 := ns_ NB481_482; replace BK481 := b5_ BK481 hb; clear hb hbox hg; have hnb19 := NB481_482.out; have hnc19 := NB482_481.out; have hcz20_0 := c0_ BK481; have hcz20_1 := c1_ BK481; have hfz20_0 := bF_ BK481.out 0; have hfz20_1 := bF_ BK481.out 1; have hcz21_0 := c0_ BK482; have hcz21_1 := c1_ BK482; have hfz21_0 := bF_ BK482.out 0; have hfz21_1 := bF_ BK482.out 1) | (refine gs_ 14 Tryz.func110 #[.slice A0_1 l0_1.length c0_1, .slice A1_1 l1_1.length c1_1] ?_; (with_reducible refine (wF31.calls k _ _ l0_1 _ _ l1_1 false _ ?side1 HC0_1.out ?side3 HC1_1.out A9.out).mono ?_); (case side1 => repeat (first | exact (k4_ HR0_1.out HB.out) | with_reducible first | apply cA_ | apply cN_ | apply cD_)); (case side3 => repeat (first | exact (k4_ HR1_1.out HB.out) | with_reducible first | apply cA_ | apply cN_ | apply cD_)); rintro e w22 ⟨rfl, hb⟩; refine ⟨_, rfl, ?_⟩; replace BK481 := b5_ BK481 hb; replace BK482 := b5_ BK482 hb; replace HB := b4_ HB hb; (try clear hb)))
 go_ret
 exact ⟨by rfl, by exact HB.out⟩
def wF34.l0 : Nat → List (S72) → List (S72) → Int → Option (Bool)
 | 0, _, _, _ => none
 | k + 1, x0, x1, x5 => if x5 < (x0.length : Int) then (if 0 ≤ x5 then (if x5 < (x1.length : Int) then ((wF33.f k ((rd_T72 x0 x5).f0) ((rd_T72 x0 x5).f1) ((rd_T72 x1 x5).f0) ((rd_T72 x1 x5).f1)).bind fun t486 => (if t486 = true then (wF34.l0 k x0 x1 (wrap64 (x5 + 1))) else (some false))) else (none)) else (none)) else (some true)
def wF34.f (k : Nat) (l0 : List (S72)) (l1 : List (S72)) : Option (Bool) := if (l0.length : Int) = (l1.length : Int) then (wF34.l0 k l0 l1 0) else (some false)
theorem wF34.mono_l : ∀ k, (∀ y0 y1 y2, LeO (wF34.l0 k y0 y1 y2) (wF34.l0 (k + 1) y0 y1 y2))
 | 0 => fun _ _ _ r h => by simp [wF34.l0] at h
 | k + 1 => by
  have ih0 := wF34.mono_l k
  intro y0 y1 y2
  unfold wF34.l0
  repeat' with_reducible first | exact ih0 _ _ _ | exact wF33.mono _ _ _ _ _ | exact l3_ _ | exact l0_ _ | refine l2_ ?_ ?_ | refine l1_ ?_ (fun _ => ?_)
theorem wF34.mono : ∀ a0 a1 k, LeO (wF34.f k a0 a1) (wF34.f (k + 1) a0 a1) := by
 intro a0 a1 k
 have ih0 := wF34.mono_l k
 unfold wF34.f
 repeat' with_reducible first | exact ih0 _ _ _ | exact wF33.mono _ _ _ _ _ | exact l3_ _ | exact l0_ _ | refine l2_ ?_ ?_ | refine l1_ ?_ (fun _ => ?_)
def wF34.T6 : Bool × List (List Nat × List Nat) := (true, [([], []), ([], []), ([0, 1], [0, 1]), ([2], [2]), ([], []), ([], []), ([4, 5], [4, 5]), ([6], [6]), ([3, 7], [3, 7]), ([8], [8])])
def wF34.B6 : List Nat := [0, 0, 3, 7, 0, 0, 48, 112, 255, 511]
theorem wF34.tab6 : rtab .any (opsOf Tryz.f53 6) = wF34.T6 := by kernel_rfl
theorem wF34.bits6 : waitsOk wF34.T6.2 wF34.B6 = true := by kernel_rfl
theorem wF34.calls (k : Nat) (A0 : Option Addr) (c0 : Nat) (l0 : List (S72)) (A1 : Option Addr) (c1 : Nat) (l1 : List (S72)) (r : Bool) (w : World) (hr0 : Kd.C k72 w A0 l0.length l0) (hc0 : l0.length ≤ c0) (hr1 : Kd.C k72 w A1 l1.length l1) (hc1 : l1.length ≤ c1) (h : wF34.f k l0 l1 = some r) :
  Calls Tryz.prog 53 #[.slice A0 l0.length c0, .slice A1 l1.length c1] w fun e w' => e = .returned (.bool r) ∧ Below w.heap.size w w' := by
 have hu72 := Tryz.underlying72
 have HR0 := aM_ hr0
 have HC0 := aM_ hc0
 clear hr0 hc0
 have HR1 := aM_ hr1
 have HC1 := aM_ hc1
 clear hr1 hc1
 have HB := aM_ (Below.refl w.heap.size w)
 have H : (if (l0.length : Int) = (l1.length : Int) then (wF34.l0 k l0 l1 0) else (some false)) = some r := h
 clear h
 by_cases c3 : (l0.length : Int) = (l1.length : Int)
 rotate_left
 ·
  rw [if_neg c3] at H
  have c3b0 : ((l0.length : Int) == (l1.length : Int)) = false := beq_eq_false_iff_ne.mpr c3
  have c3b1 : ((l0.length : Int) != (l1.length : Int)) = true := bne_iff_ne.mpr c3
  have c3b2 : (l0.length == l1.length) = false := by first | simpa using c3 | (simp at c3 ⊢; omega)
  obtain rfl := Option.some.inj H
  go_enter Tryz.func53, Tryz.ntmps53
  go_wp2
  go_ret
  exact ⟨by rfl, by exact HB.out⟩
 rw [if_pos c3] at H
 have c3b0 : ((l0.length : Int) == (l1.length : Int)) = true := beq_iff_eq.mpr c3
 have c3b1 : ((l0.length : Int) != (l1.length : Int)) = false := bne_eq_false_iff_eq.mpr c3
 have c3b2 : (l0.length == l1.length) = true := by first | simpa using c3 | (simp at c3 ⊢; omega)
 clear c3
 have H' := aM_ H
 clear H
 go_enter Tryz.func53, Tryz.ntmps53
 go_wp2
 go_loopg [5] k (fun kq v5 w' => ∃ (x5_1 : Int), v5 = .int .i64 x5_1 ∧ Aside0 (wF34.l0 kq l0 l1 x5_1 = some r) ∧ Aside0 (kq ≤ k) ∧ Aside0 (Below w.heap.size w w'))
 case atStart => exact ⟨(0), (by rfl), H', ⟨Nat.le_refl _⟩, ⟨HB.out⟩⟩
 clear H'
 try clear p2
 try clear c3b0
 try clear c3b1
 try clear c3b2
 obtain ⟨x5_1, rfl, HA, HK1, HB⟩ := hrel
 cases gk with
 | zero => exact absurd HA.out (by simp [wF34.l0])
 | succ k1 =>
  have H := HA.out
  clear HA
  simp only [wF34.l0] at H
  by_cases c4 : x5_1 < (l0.length : Int)
  rotate_left
  ·
   rw [if_neg c4] at H
   have c4b0 := dF_ c4
   clear c4
   obtain rfl := Option.some.inj H
   go_wp2
   go_ret
   exact ⟨by rfl, by exact HB.out⟩
  rw [if_pos c4] at H
  have c4b0 := dT_ c4
  clear c4
  by_cases c5 : 0 ≤ x5_1
  rotate_left
  ·
   rw [if_neg c5] at H
   exact absurd H (by simp)
  rw [if_pos c5] at H
  have c5b0 := dT_ c5
  clear c5
  by_cases c6 : x5_1 < (l1.length : Int)
  rotate_left
  ·
   rw [if_neg c6] at H
   exact absurd H (by simp)
  rw [if_pos c6] at H
  have c6b0 := dT_ c6
  clear c6
  replace H := oB_.mp H
  obtain ⟨t486, A70, H⟩ := H
  try dsimp only at H
  have A7 := aM_ A70
  clear A70
  by_cases c8 : t486 = true
  ·
   subst c8
   rw [if_pos rfl] at H
   have H' := aM_ H
   clear H
   try go_wp2
   replace HB := aM_ (bD_ HB.out)
   have p484 : 0 ≤ (x5_1 : Int) := oD_ ‹_›
   have q484 : x5_1 < (l0.length : Int) := oD_ ‹_›
   obtain ⟨ad484, A484_1, c484_1, e484, hx484_0, hx484_1, hl484_1, hi484_1⟩ := at_T72 HR0.out x5_1 p484 q484
   have hw484_1 := hx484_1
   have hw484_0 := hx484_0
   cases e484
   replace hx484_0 := cb_ HB hx484_0
   replace hx484_1 := cb_ HB hx484_1
   have HR484_1 := aM_ hi484_1
   have HC484_1 := aM_ hl484_1
   clear hi484_1 hl484_1
   replace p484 := eq_true p484
   replace q484 := eq_true q484
   have p485 : 0 ≤ (x5_1 : Int) := oD_ ‹_›
   have q485 : x5_1 < (l1.length : Int) := oD_ ‹_›
   obtain ⟨ad485, A485_1, c485_1, e485, hx485_0, hx485_1, hl485_1, hi485_1⟩ := at_T72 HR1.out x5_1 p485 q485
   have hw485_1 := hx485_1
   have hw485_0 := hx485_0
   cases e485
   replace hx485_0 := cb_ HB hx485_0
   replace hx485_1 := cb_ HB hx485_1
   have HR485_1 := aM_ hi485_1
   have HC485_1 := aM_ hl485_1
   clear hi485_1 hl485_1
   replace p485 := eq_true p485
   replace q485 := eq_true q485
   refine start_ (n := 10) (S := fun w' => w'.cell? (ad484.add ((x5_1).toNat * 2)) = some (.bool ((rd_T72 l0 x5_1).f0)) ∧ w'.cell? ⟨(ad484.add ((x5_1).toNat * 2)).block, (ad484.add ((x5_1).toNat * 2)).off + 1, none⟩ = some (.slice A484_1 ((rd_T72 l0 x5_1).f1).length c484_1) ∧ w'.cell? (ad485.add ((x5_1).toNat * 2)) = some (.bool ((rd_T72 l1 x5_1).f0)) ∧ w'.cell? ⟨(ad485.add ((x5_1).toNat * 2)).block, (ad485.add ((x5_1).toNat * 2)).off + 1, none⟩ = some (.slice A485_1 ((rd_T72 l1 x5_1).f1).length c485_1)) (ds := []) #[fy, fy, fy, fy, fy, fy, fy, fy, fy, fy] (by kernel_rfl) rfl rfl ⟨(cb_ HB hw484_0), (cb_ HB hw484_1), (cb_ HB hw485_0), (cb_ HB hw485_1)⟩ (fun hHeld => ?_); refine with_tabW wF34.tab6 wF34.bits6 (fun HT_ HW_ => ?_)
   generalize wr.drew = w9 at HB HR484_1 HR485_1 hx484_0 hx484_1 hx485_0 hx485_1 hHeld ⊢
   refine pu_ HT_ 0 17 #[ty, fy, fy, fy, fy, fy, fy, fy, fy, fy] ?_
   refine pu_ HT_ 1 18 #[ty, ty, fy, fy, fy, fy, fy, fy, fy, fy] ?_
   refine pu_ HT_ 2 19 #[ty, ty, ty, fy, fy, fy, fy, fy, fy, fy] ?_
   refine pu_ HT_ 4 21 #[ty, ty, ty, fy, ty, fy, fy, fy, fy, fy] ?_
   refine pu_ HT_ 5 22 #[ty, ty, ty, fy, ty, ty, fy, fy, fy, fy] ?_
   refine pu_ HT_ 6 23 #[ty, ty, ty, fy, ty, ty, ty, fy, fy, fy] ?_
   refine tk_ HT_ HW_ 3 20 #[ty, ty, ty, ty, ty, ty, ty, fy, fy, fy] hHeld ?_ (hr := by rintro w' ⟨s0, s1, s2, s3⟩; go_simp; with_reducible rfl)
   refine tk_ HT_ HW_ 7 24 #[ty, ty, ty, ty, ty, ty, ty, ty, fy, fy] hHeld ?_ (hr := by rintro w' ⟨s0, s1, s2, s3⟩; go_simp; with_reducible rfl)
   refine one_ (i := 8) (N := some 25) #[ty, ty, ty, ty, ty, ty, ty, ty, ty, fy] rfl rfl (one_of HT_.out (by kernel_rfl)) (by decide) (fun K hK => ?_)
   refine goes_ Tryz.func86 (by kernel_rfl) rfl #[.agg #[.bool ((rd_T72 l0 x5_1).f0), .slice A484_1 ((rd_T72 l0 x5_1).f1).length c484_1], .agg #[.bool ((rd_T72 l1 x5_1).f0), .slice A485_1 ((rd_T72 l1 x5_1).f1).length c485_1]] (by rfl) rfl rfl (by (try simp only [sD_, sE_, sF_]); rfl) ?_
   with_reducible refine (wF33.calls k1 ((rd_T72 l0 x5_1).f0) _ _ ((rd_T72 l0 x5_1).f1) ((rd_T72 l1 x5_1).f0) _ _ ((rd_T72 l1 x5_1).f1) true _ ?side1 ?side2 ?side3 ?side4 A7.out).mono ?_
   (case side1 => repeat (first | exact (k4_ HR484_1.out HB.out) | with_reducible first | apply cA_ | apply cN_ | apply cD_))
   (case side2 => exact HC484_1.out)
   (case side3 => repeat (first | exact (k4_ HR485_1.out HB.out) | with_reducible first | apply cA_ | apply cN_ | apply cD_))
   (case side4 => exact HC485_1.out)
   rintro e w10 ⟨rfl, hb⟩
   refine ⟨_, rfl, ?_⟩
   replace HB := b4_ HB hb
   (try clear hb)
   refine hK.out _ _ ⟨(cb_ HB hw484_0), (cb_ HB hw484_1), (cb_ HB hw485_0), (cb_ HB hw485_1)⟩ (fun hHeld => ?_)
   clear hK K
   refine norm_ (by show Act.put _ (some 25) _ = _; simp only [Act.put, sA_, sB_, sC_, i6_, i3_]; rfl) ?_
   refine pu_ HT_ 9 26 #[ty, ty, ty, ty, ty, ty, ty, ty, ty, ty] ?_
   refine done_ (done_of HT_.out (by kernel_rfl)) ?_
   try go_wp2
   go_roundg k1
   case measure => have := HK1.out; omega
   case rel => exact ⟨(wrap64 (x5_1 + 1)), (by rfl), H', ⟨by have := HK1.out; omega⟩, ⟨HB.out⟩⟩
  replace c8 := Bool.eq_false_iff.mpr c8
  subst c8
  replace H : (some false) = some r := by rw [if_neg (show ¬ (false = true) by decide)] at H; exact H
  obtain rfl := Option.some.inj H
  try go_wp2
  replace HB := aM_ (bD_ HB.out)
  have p484 : 0 ≤ (x5_1 : Int) := oD_ ‹_›
  have q484 : x5_1 < (l0.length : Int) := oD_ ‹_›
  obtain ⟨ad484, A484_1, c484_1, e484, hx484_0, hx484_1, hl484_1, hi484_1⟩ := at_T72 HR0.out x5_1 p484 q484
  have hw484_1 := hx484_1
  have hw484_0 := hx484_0
  cases e484
  replace hx484_0 := cb_ HB hx484_0
  replace hx484_1 := cb_ HB hx484_1
  have HR484_1 := aM_ hi484_1
  have HC484_1 := aM_ hl484_1
  clear hi484_1 hl484_1
  replace p484 := eq_true p484
  replace q484 := eq_true q484
  have p485 : 0 ≤ (x5_1 : Int) := oD_ ‹_›
  have q485 : x5_1 < (l1.length : Int) := oD_ ‹_›
  obtain ⟨ad485, A485_1, c485_1, e485, hx485_0, hx485_1, hl485_1, hi485_1⟩ := at_T72 HR1.out x5_1 p485 q485
  have hw485_1 := hx485_1
  have hw485_0 := hx485_0
  cases e485
  replace hx485_0 := cb_ HB hx485_0
  replace hx485_1 := cb_ HB hx485_1
  have HR485_1 := aM_ hi485_1
  have HC485_1 := aM_ hl485_1
  clear hi485_1 hl485_1
  replace p485 := eq_true p485
  replace q485 := eq_true q485
  refine start_ (n := 10) (S := fun w' => w'.cell? (ad484.add ((x5_1).toNat * 2)) = some (.bool ((rd_T72 l0 x5_1).f0)) ∧ w'.cell? ⟨(ad484.add ((x5_1).toNat * 2)).block, (ad484.add ((x5_1).toNat * 2)).off + 1, none⟩ = some (.slice A484_1 ((rd_T72 l0 x5_1).f1).length c484_1) ∧ w'.cell? (ad485.add ((x5_1).toNat * 2)) = some (.bool ((rd_T72 l1 x5_1).f0)) ∧ w'.cell? ⟨(ad485.add ((x5_1).toNat * 2)).block, (ad485.add ((x5_1).toNat * 2)).off + 1, none⟩ = some (.slice A485_1 ((rd_T72 l1 x5_1).f1).length c485_1)) (ds := []) #[fy, fy, fy, fy, fy, fy, fy, fy, fy, fy] (by kernel_rfl) rfl rfl ⟨(cb_ HB hw484_0), (cb_ HB hw484_1), (cb_ HB hw485_0), (cb_ HB hw485_1)⟩ (fun hHeld => ?_); refine with_tabW wF34.tab6 wF34.bits6 (fun HT_ HW_ => ?_)
  generalize wr.drew = w11 at HB HR484_1 HR485_1 hx484_0 hx484_1 hx485_0 hx485_1 hHeld ⊢
  refine pu_ HT_ 0 17 #[ty, fy, fy, fy, fy, fy, fy, fy, fy, fy] ?_
  refine pu_ HT_ 1 18 #[ty, ty, fy, fy, fy, fy, fy, fy, fy, fy] ?_
  refine pu_ HT_ 2 19 #[ty, ty, ty, fy, fy, fy, fy, fy, fy, fy] ?_
  refine pu_ HT_ 4 21 #[ty, ty, ty, fy, ty, fy, fy, fy, fy, fy] ?_
  refine pu_ HT_ 5 22 #[ty, ty, ty, fy, ty, ty, fy, fy, fy, fy] ?_
  refine pu_ HT_ 6 23 #[ty, ty, ty, fy, ty, ty, ty, fy, fy, fy] ?_
  refine tk_ HT_ HW_ 3 20 #[ty, ty, ty, ty, ty, ty, ty, fy, fy, fy] hHeld ?_ (hr := by rintro w' ⟨s0, s1, s2, s3⟩; go_simp; with_reducible rfl)
  refine tk_ HT_ HW_ 7 24 #[ty, ty, ty, ty, ty, ty, ty, ty, fy, fy] hHeld ?_ (hr := by rintro w' ⟨s0, s1, s2, s3⟩; go_simp; with_reducible rfl)
  refine one_ (i := 8) (N := some 25) #[ty, ty, ty, ty, ty, ty, ty, ty, ty, fy] rfl rfl (one_of HT_.out (by kernel_rfl)) (by decide) (fun K hK => ?_)
  refine goes_ Tryz.func86 (by kernel_rfl) rfl #[.agg #[.bool ((rd_T72 l0 x5_1).f0), .slice A484_1 ((rd_T72 l0 x5_1).f1).length c484_1], .agg #[.bool ((rd_T72 l1 x5_1).f0), .slice A485_1 ((rd_T72 l1 x5_1).f1).length c485_1]] (by rfl) rfl rfl (by (try simp only [sD_, sE_, sF_]); rfl) ?_
  with_reducible refine (wF33.calls k1 ((rd_T72 l0 x5_1).f0) _ _ ((rd_T72 l0 x5_1).f1) ((rd_T72 l1 x5_1).f0) _ _ ((rd_T72 l1 x5_1).f1) false _ ?side1 ?side2 ?side3 ?side4 A7.out).mono ?_
  (case side1 => repeat (first | exact (k4_ HR484_1.out HB.out) | with_reducible first | apply cA_ | apply cN_ | apply cD_))
  (case side2 => exact HC484_1.out)
  (case side3 => repeat (first | exact (k4_ HR485_1.out HB.out) | with_reducible first | apply cA_ | apply cN_ | apply cD_))
  (case side4 => exact HC485_1.out)
  rintro e w12 ⟨rfl, hb⟩
  refine ⟨_, rfl, ?_⟩
  replace HB := b4_ HB hb
  (try clear hb)
  refine hK.out _ _ ⟨(cb_ HB hw484_0), (cb_ HB hw484_1), (cb_ HB hw485_0), (cb_ HB hw485_1)⟩ (fun hHeld => ?_)
  clear hK K
  refine norm_ (by show Act.put _ (some 25) _ = _; simp only [Act.put, sA_, sB_, sC_, i6_, i3_]; rfl) ?_
  refine pu_ HT_ 9 26 #[ty, ty, ty, ty, ty, ty, ty, ty, ty, ty] ?_
  refine done_ (done_of HT_.out (by kernel_rfl)) ?_
  try go_wp2
  go_ret
  exact ⟨by rfl, by exact HB.out⟩
def wF32.f (k : Nat) (l0_0 : List (S72)) (l1_0 : List (S72)) : Option (Bool) := (wF34.f k l0_0 l1_0).bind fun t489 => (if t489 = true then (some true) else (some false))
theorem wF32.mono : ∀ a0 a1 k, LeO (wF32.f k a0 a1) (wF32.f (k + 1) a0 a1) := by
 intro a0 a1 k
 unfold wF32.f
 repeat' with_reducible first | exact wF34.mono _ _ _ | exact l3_ _ | exact l0_ _ | refine l2_ ?_ ?_ | refine l1_ ?_ (fun _ => ?_)
theorem wF32.calls (k : Nat) (A0_0 : Option Addr) (c0_0 : Nat) (l0_0 : List (S72)) (A1_0 : Option Addr) (c1_0 : Nat) (l1_0 : List (S72)) (r : Bool) (w : World) (hr0_0 : Kd.C k72 w A0_0 l0_0.length l0_0) (hc0_0 : l0_0.length ≤ c0_0) (hr1_0 : Kd.C k72 w A1_0 l1_0.length l1_0) (hc1_0 : l1_0.length ≤ c1_0) (h : wF32.f k l0_0 l1_0 = some r) :
  Calls Tryz.prog 18 #[.agg #[.slice A0_0 l0_0.length c0_0], .agg #[.slice A1_0 l1_0.length c1_0]] w fun e w' => e = .returned (.bool r) ∧ Below w.heap.size w w' := by
 have hu33 := Tryz.underlying33
 have HR0_0 := aM_ hr0_0
 have HC0_0 := aM_ hc0_0
 clear hr0_0 hc0_0
 have HR1_0 := aM_ hr1_0
 have HC1_0 := aM_ hc1_0
 clear hr1_0 hc1_0
 have HB := aM_ (Below.refl w.heap.size w)
 have H : ((wF34.f k l0_0 l1_0).bind fun t489 => (if t489 = true then (some true) else (some false))) = some r := h
 clear h
 replace H := oB_.mp H
 obtain ⟨t489, A30, H⟩ := H
 try dsimp only at H
 have A3 := aM_ A30
 clear A30
 by_cases c4 : t489 = true
 ·
  subst c4
  rw [if_pos rfl] at H
  obtain rfl := Option.some.inj H
  go_enter Tryz.func18, Tryz.ntmps18
  go_wp2_with (first | (refine bx_ 2 #[.slice A0_0 l0_0.length c0_0] 33 ?_; intro gb487 hg w5 hbox hb; have BK487 := aM_ (hbox); have GW487 := gw_ hg HB; replace HB := b4_ HB hb; clear hb hbox hg) | (refine bx_ 3 #[.slice A1_0 l1_0.length c1_0] 33 ?_; intro gb488 hg w6 hbox hb; have BK488 := aM_ (hbox); have GW488 := gw_ hg HB; replace HB := b4_ HB hb; have NB487_488 := nb_ hg BK487; have NB488_487 := ns_ NB487_488; replace BK487 := b5_ BK487 hb; clear hb hbox hg; have hnb7 := NB487_488.out; have hnc7 := NB488_487.out; have hcz8_0 := c0_ BK487; have hfz8_0 := bF_ BK487.out 0; have hcz9_0 := c0_ BK488; have hfz9_0 := bF_ BK488.out 0) | (refine gs_ 9 Tryz.func53 #[.slice A0_0 l0_0.length c0_0, .slice A1_0 l1_0.length c1_0] ?_; (with_reducible refine (wF34.calls k _ _ l0_0 _ _ l1_0 true _ ?side1 HC0_0.out ?side3 HC1_0.out A3.out).mono ?_); (case side1 => repeat (first | exact (k4_ HR0_0.out HB.out) | with_reducible first | apply cA_ | apply cN_ | apply cD_)); (case side3 => repeat (first | exact (k4_ HR1_0.out HB.out) | with_reducible first | apply cA_ | apply cN_ | apply cD_)); rintro e w10 ⟨rfl, hb⟩; refine ⟨_, rfl, ?_⟩; replace BK487 := b5_ BK487 hb; replace BK488 := b5_ BK488 hb; replace HB := b4_ HB hb; (try clear hb)))
  go_ret
  exact ⟨by rfl, by exact HB.out⟩
 replace c4 := Bool.eq_false_iff.mpr c4
 subst c4
 replace H : (some false) = some r := by rw [if_neg (show ¬ (false = true) by decide)] at H; exact H
 obtain rfl := Option.some.inj H
 go_enter Tryz.func18, Tryz.ntmps18
 go_wp2_with (first | (refine bx_ 2 #[.slice A0_0 l0_0.length c0_0] 33 ?_; intro gb487 hg w11 hbox hb; have BK487 := aM_ (hbox); have GW487 := gw_ hg HB; replace HB := b4_ HB hb; clear hb hbox hg) | (refine bx_ 3 #[.slice A1_0 l1_0.length c1_0] 33 ?_; intro gb488 hg w12 hbox hb; have BK488 := aM_ (hbox); have GW488 := gw_ hg HB; replace HB := b4_ HB hb; have NB487_488 := nb_ hg BK487; have NB488_487 := ns_ NB487_488; replace BK487 := b5_ BK487 hb; clear hb hbox hg; have hnb13 := NB487_488.out; have hnc13 := NB488_487.out; have hcz14_0 := c0_ BK487; have hfz14_0 := bF_ BK487.out 0; have hcz15_0 := c0_ BK488; have hfz15_0 := bF_ BK488.out 0) | (refine gs_ 9 Tryz.func53 #[.slice A0_0 l0_0.length c0_0, .slice A1_0 l1_0.length c1_0] ?_; (with_reducible refine (wF34.calls k _ _ l0_0 _ _ l1_0 false _ ?side1 HC0_0.out ?side3 HC1_0.out A3.out).mono ?_); (case side1 => repeat (first | exact (k4_ HR0_0.out HB.out) | with_reducible first | apply cA_ | apply cN_ | apply cD_)); (case side3 => repeat (first | exact (k4_ HR1_0.out HB.out) | with_reducible first | apply cA_ | apply cN_ | apply cD_)); rintro e w16 ⟨rfl, hb⟩; refine ⟨_, rfl, ?_⟩; replace BK487 := b5_ BK487 hb; replace BK488 := b5_ BK488 hb; replace HB := b4_ HB hb; (try clear hb)))
 go_ret
 exact ⟨by rfl, by exact HB.out⟩
def sF60.l0 : Nat → List ByteArray → ByteArray → Int → Option (Int)
 | 0, _, _, _ => none
 | k + 1, x0, x1, x5 => if x5 < (x0.length : Int) then (if 0 ≤ x5 then (if (rdOf eB_ x0 x5).toList = x1.toList then (some x5) else (sF60.l0 k x0 x1 (wrap64 (x5 + 1)))) else (none)) else (some (-1))
def sF60.f (k : Nat) (l0 : List ByteArray) (a1 : ByteArray) : Option (Int) := sF60.l0 k l0 a1 0
theorem sF60.mono_l : ∀ k, (∀ y0 y1 y2, LeO (sF60.l0 k y0 y1 y2) (sF60.l0 (k + 1) y0 y1 y2))
 | 0 => fun _ _ _ r h => by simp [sF60.l0] at h
 | k + 1 => by
  have ih0 := sF60.mono_l k
  intro y0 y1 y2
  unfold sF60.l0
  repeat' with_reducible first | exact ih0 _ _ _ | exact l3_ _ | exact l0_ _ | refine l2_ ?_ ?_ | refine l1_ ?_ (fun _ => ?_)
theorem sF60.mono : ∀ a0 a1 k, LeO (sF60.f k a0 a1) (sF60.f (k + 1) a0 a1) := by
 intro a0 a1 k
 have ih0 := sF60.mono_l k
 unfold sF60.f
 repeat' with_reducible first | exact ih0 _ _ _ | exact l3_ _ | exact l0_ _ | refine l2_ ?_ ?_ | refine l1_ ?_ (fun _ => ?_)
theorem sF60.calls (k : Nat) (A0 : Option Addr) (c0 : Nat) (l0 : List ByteArray) (a1 : ByteArray) (r : Int) (w : World) (hr0 : Kd.C Kd.string w A0 l0.length l0) (hc0 : l0.length ≤ c0) (h : sF60.f k l0 a1 = some r) :
  Calls Tryz.prog 65 #[.slice A0 l0.length c0, .string a1] w fun e w' => e = .returned (.int .i64 r) ∧ Drawn0 w w' := by
 have HR0 := aM_ hr0
 have HC0 := aM_ hc0
 clear hr0 hc0
 have H : (sF60.l0 k l0 a1 0) = some r := h
 clear h
 have H' := aM_ H
 clear H
 go_enter Tryz.func65, Tryz.ntmps65
 go_wp2
 go_loopg [5] k (fun kq v5 w' => ∃ (x5_1 : Int), v5 = .int .i64 x5_1 ∧ Aside0 (sF60.l0 kq l0 a1 x5_1 = some r) ∧ Aside0 (kq ≤ k) ∧ Drawn0 w w')
 case atStart => exact ⟨(0), (by rfl), H', ⟨Nat.le_refl _⟩, by repeat (first | exact Drawn0.refl _ | apply Drawn0.step)⟩
 clear H'
 try clear p2
 obtain ⟨x5_1, rfl, HA, HK1, ⟨m1, rfl⟩⟩ := hrel
 cases gk with
 | zero => exact absurd HA.out (by simp [sF60.l0])
 | succ k1 =>
  have H := HA.out
  clear HA
  simp only [sF60.l0] at H
  by_cases c3 : x5_1 < (l0.length : Int)
  rotate_left
  ·
   rw [if_neg c3] at H
   have c3b0 := dF_ c3
   clear c3
   obtain rfl := Option.some.inj H
   go_wp2
   go_ret
   exact ⟨by rfl, by repeat (first | exact Drawn0.refl _ | apply Drawn0.step)⟩
  rw [if_pos c3] at H
  have c3b0 := dT_ c3
  clear c3
  by_cases c4 : 0 ≤ x5_1
  rotate_left
  ·
   rw [if_neg c4] at H
   exact absurd H (by simp)
  rw [if_pos c4] at H
  have c4b0 := dT_ c4
  clear c4
  by_cases c5 : (rdOf eB_ l0 x5_1).toList = a1.toList
  ·
   rw [if_pos c5] at H
   have c5b0 : ((rdOf eB_ l0 x5_1).toList == a1.toList) = true := beq_iff_eq.mpr c5
   have c5b1 : ((rdOf eB_ l0 x5_1).toList != a1.toList) = false := bne_eq_false_iff_eq.mpr c5
   clear c5
   obtain rfl := Option.some.inj H
   have p107 : 0 ≤ (x5_1 : Int) := oD_ ‹_›
   have q107 : x5_1 < (l0.length : Int) := oD_ ‹_›
   obtain ⟨ad107, e107, hx107_0⟩ := Kd.at_string HR0.out x5_1 p107 q107
   cases e107
   replace p107 := eq_true p107
   replace q107 := eq_true q107
   go_wp2
   go_ret
   exact ⟨by rfl, by repeat (first | exact Drawn0.refl _ | apply Drawn0.step)⟩
  rw [if_neg c5] at H
  have c5b0 : ((rdOf eB_ l0 x5_1).toList == a1.toList) = false := beq_eq_false_iff_ne.mpr c5
  have c5b1 : ((rdOf eB_ l0 x5_1).toList != a1.toList) = true := bne_iff_ne.mpr c5
  have H' := aM_ H
  clear H
  have p107 : 0 ≤ (x5_1 : Int) := oD_ ‹_›
  have q107 : x5_1 < (l0.length : Int) := oD_ ‹_›
  obtain ⟨ad107, e107, hx107_0⟩ := Kd.at_string HR0.out x5_1 p107 q107
  cases e107
  replace p107 := eq_true p107
  replace q107 := eq_true q107
  go_wp2
  go_roundg k1
  case measure => have := HK1.out; omega
  case rel => exact ⟨(wrap64 (x5_1 + 1)), (by rfl), H', ⟨by have := HK1.out; omega⟩, by repeat (first | exact Drawn0.refl _ | apply Drawn0.step)⟩
mutual
def sF56.l0 : Nat → ByteArray → ByteArray → Int → Option (Bool)
 | 0, _, _, _ => none
 | k + 1, x0, x1, x5 => if x5 < (x0.size : Int) then (sF56.j1 k x0 x1 x5 (decide (x5 < (x1.size : Int)))) else (sF56.j1 k x0 x1 x5 false)
def sF56.j1 : Nat → ByteArray → ByteArray → Int → Bool → Option (Bool)
 | 0, _, _, _, _ => none
 | k + 1, x0, x1, x5, x15 => if x15 = true then (if 0 ≤ x5 then (if x5 < (x0.size : Int) then (if x5 < (x1.size : Int) then (if (bt x0 x5) = (bt x1 x5) then (sF56.l0 k x0 x1 (wrap64 (x5 + 1))) else (some (decide ((bt x0 x5) < (bt x1 x5))))) else (none)) else (none)) else (none)) else (some (decide ((x0.size : Int) < (x1.size : Int))))
end
def sF56.f (k : Nat) (a0 : ByteArray) (a1 : ByteArray) : Option (Bool) := sF56.l0 k a0 a1 0
theorem sF56.mono_l : ∀ k, (∀ y0 y1 y2, LeO (sF56.l0 k y0 y1 y2) (sF56.l0 (k + 1) y0 y1 y2)) ∧ (∀ y0 y1 y2 y3, LeO (sF56.j1 k y0 y1 y2 y3) (sF56.j1 (k + 1) y0 y1 y2 y3))
 | 0 => ⟨fun _ _ _ r h => by simp [sF56.l0] at h, fun _ _ _ _ r h => by simp [sF56.j1] at h⟩
 | k + 1 => by
  obtain ⟨ih0, ih1⟩ := sF56.mono_l k
  refine ⟨?_, ?_⟩
  ·
   intro y0 y1 y2
   unfold sF56.l0
   repeat' with_reducible first | exact ih0 _ _ _ | exact ih1 _ _ _ _ | exact l3_ _ | exact l0_ _ | refine l2_ ?_ ?_ | refine l1_ ?_ (fun _ => ?_)
  intro y0 y1 y2 y3
  unfold sF56.j1
  repeat' with_reducible first | exact ih0 _ _ _ | exact ih1 _ _ _ _ | exact l3_ _ | exact l0_ _ | refine l2_ ?_ ?_ | refine l1_ ?_ (fun _ => ?_)
theorem sF56.mono : ∀ a0 a1 k, LeO (sF56.f k a0 a1) (sF56.f (k + 1) a0 a1) := by
 intro a0 a1 k
 obtain ⟨ih0, ih1⟩ := sF56.mono_l k
 unfold sF56.f
 repeat' with_reducible first | exact ih0 _ _ _ | exact ih1 _ _ _ _ | exact l3_ _ | exact l0_ _ | refine l2_ ?_ ?_ | refine l1_ ?_ (fun _ => ?_)
theorem sF56.calls (k : Nat) (a0 : ByteArray) (a1 : ByteArray) (r : Bool) (w : World) (h : sF56.f k a0 a1 = some r) :
  Calls Tryz.prog 103 #[.string a0, .string a1] w fun e w' => e = .returned (.bool r) ∧ Drawn0 w w' := by
 have H : (sF56.l0 k a0 a1 0) = some r := h
 clear h
 have H' := aM_ H
 clear H
 go_enter Tryz.func103, Tryz.ntmps103
 go_wp2
 repeat (go_quiet (fail); try go_wp2)
 go_loopg [5] k (fun kq v5 w' => ∃ (x5_1 : Int), v5 = .int .i64 x5_1 ∧ Aside0 (sF56.l0 kq a0 a1 x5_1 = some r) ∧ Aside0 (kq ≤ k) ∧ Drawn0 w w')
 case atStart => exact ⟨(0), (by rfl), H', ⟨Nat.le_refl _⟩, by repeat (first | exact Drawn0.refl _ | apply Drawn0.step)⟩
 clear H'
 try clear p2
 obtain ⟨x5_1, rfl, HA, HK1, ⟨m1, rfl⟩⟩ := hrel
 cases gk with
 | zero => exact absurd HA.out (by simp [sF56.l0])
 | succ k1 =>
  have H := HA.out
  clear HA
  simp only [sF56.l0] at H
  have HC3 := aM_ H
  clear H
  go_upto_region 2 with (fail)
  repeat (go_quiet (fail); go_upto_region 2 with (fail))
  go_cut [15] (fun v15 wc => ∃ (kq : Nat) (x15_2 : Bool), v15 = .bool x15_2 ∧ Aside0 (sF56.j1 kq a0 a1 x5_1 x15_2 = some r) ∧ Aside0 (kq ≤ k1) ∧ Drawn0 w wc)
  case first =>
   have H := HC3.out
   clear HC3
   by_cases c4 : x5_1 < (a0.size : Int)
   ·
    rw [if_pos c4] at H
    have c4b0 := dT_ c4
    clear c4
    (skip)
    have H' := aM_ H
    clear H
    go_wp2
    repeat (go_quiet (fail); try go_wp2)
    go_meet
    case rel => exact ⟨_, (decide (x5_1 < (a1.size : Int))), (by rfl), H', ⟨by have := HK1.out; omega⟩, by repeat (first | exact Drawn0.refl _ | apply Drawn0.step)⟩
   rw [if_neg c4] at H
   have c4b0 := dF_ c4
   clear c4
   (skip)
   have H' := aM_ H
   clear H
   go_wp2
   repeat (go_quiet (fail); try go_wp2)
   go_meet
   case rel => exact ⟨_, (false), (by rfl), H', ⟨by have := HK1.out; omega⟩, by repeat (first | exact Drawn0.refl _ | apply Drawn0.step)⟩
  clear HC3
  try clear p2
  try clear c4b0
  try clear p2
  obtain ⟨kq, x15_2, rfl, HA, HJ2, ⟨mc2, rfl⟩⟩ := hcut
  cases kq with
  | zero => exact absurd HA.out (by simp [sF56.j1])
  | succ kj2 =>
   have H := HA.out
   clear HA
   simp only [sF56.j1] at H
   by_cases c5 : x15_2 = true
   rotate_left
   ·
    replace c5 := Bool.eq_false_iff.mpr c5
    subst c5
    replace H : (some (decide ((a0.size : Int) < (a1.size : Int)))) = some r := by rw [if_neg (show ¬ (false = true) by decide)] at H; exact H
    obtain rfl := Option.some.inj H
    go_wp2
    repeat (go_quiet (fail); try go_wp2)
    go_ret
    exact ⟨by rfl, by repeat (first | exact Drawn0.refl _ | apply Drawn0.step)⟩
   subst c5
   rw [if_pos rfl] at H
   by_cases c6 : 0 ≤ x5_1
   rotate_left
   ·
    rw [if_neg c6] at H
    exact absurd H (by simp)
   rw [if_pos c6] at H
   have c6b0 := dT_ c6
   clear c6
   by_cases c7 : x5_1 < (a0.size : Int)
   rotate_left
   ·
    rw [if_neg c7] at H
    exact absurd H (by simp)
   rw [if_pos c7] at H
   have c7b0 := dT_ c7
   clear c7
   by_cases c9 : x5_1 < (a1.size : Int)
   rotate_left
   ·
    rw [if_neg c9] at H
    exact absurd H (by simp)
   rw [if_pos c9] at H
   have c9b0 := dT_ c9
   clear c9
   by_cases c11 : (bt a0 x5_1) = (bt a1 x5_1)
   ·
    rw [if_pos c11] at H
    have c11b0 : ((bt a0 x5_1) == (bt a1 x5_1)) = true := beq_iff_eq.mpr c11
    have c11b1 : ((bt a0 x5_1) != (bt a1 x5_1)) = false := bne_eq_false_iff_eq.mpr c11
    clear c11
    have H' := aM_ H
    clear H
    have p8 : 0 ≤ (x5_1 : Int) := oD_ ‹_›
    have q8 : x5_1 < (a0.size : Int) := oD_ ‹_›
    have hx8 := bt_at a0 x5_1
    replace p8 := eq_true p8
    replace q8 := eq_true q8
    have p10 : 0 ≤ (x5_1 : Int) := oD_ ‹_›
    have q10 : x5_1 < (a1.size : Int) := oD_ ‹_›
    have hx10 := bt_at a1 x5_1
    replace p10 := eq_true p10
    replace q10 := eq_true q10
    go_wp2
    repeat (go_quiet (fail); try go_wp2)
    go_roundg kj2
    case measure => have := HK1.out; have := HJ2.out; omega
    case rel => exact ⟨(wrap64 (x5_1 + 1)), (by rfl), H', ⟨by have := HK1.out; have := HJ2.out; omega⟩, by repeat (first | exact Drawn0.refl _ | apply Drawn0.step)⟩
   rw [if_neg c11] at H
   have c11b0 : ((bt a0 x5_1) == (bt a1 x5_1)) = false := beq_eq_false_iff_ne.mpr c11
   have c11b1 : ((bt a0 x5_1) != (bt a1 x5_1)) = true := bne_iff_ne.mpr c11
   obtain rfl := Option.some.inj H
   have p8 : 0 ≤ (x5_1 : Int) := oD_ ‹_›
   have q8 : x5_1 < (a0.size : Int) := oD_ ‹_›
   have hx8 := bt_at a0 x5_1
   replace p8 := eq_true p8
   replace q8 := eq_true q8
   have p10 : 0 ≤ (x5_1 : Int) := oD_ ‹_›
   have q10 : x5_1 < (a1.size : Int) := oD_ ‹_›
   have hx10 := bt_at a1 x5_1
   replace p10 := eq_true p10
   replace q10 := eq_true q10
   have p12 : 0 ≤ (x5_1 : Int) := oD_ ‹_›
   have q12 : x5_1 < (a0.size : Int) := oD_ ‹_›
   have hx12 := bt_at a0 x5_1
   replace p12 := eq_true p12
   replace q12 := eq_true q12
   have p13 : 0 ≤ (x5_1 : Int) := oD_ ‹_›
   have q13 : x5_1 < (a1.size : Int) := oD_ ‹_›
   have hx13 := bt_at a1 x5_1
   replace p13 := eq_true p13
   replace q13 := eq_true q13
   go_wp2
   repeat (go_quiet (fail); try go_wp2)
   go_ret
   exact ⟨by rfl, by repeat (first | exact Drawn0.refl _ | apply Drawn0.step)⟩
def sF59.f (l0 : List ByteArray) : Option (List ByteArray) := (some (([] : List ByteArray) : List ByteArray)).bind fun y108 => (if y108.length + l0.length < 8796093022208 then (some (y108 ++ l0)) else (none))
theorem sF59.calls (A0 : Option Addr) (c0 : Nat) (l0 : List ByteArray) (r : List ByteArray) (w : World) (hr0 : Kd.C Kd.string w A0 l0.length l0) (hc0 : l0.length ≤ c0) (h : sF59.f l0 = some r) :
  Calls Tryz.prog 104 #[.slice A0 l0.length c0] w fun e w' => ∃ v0_ : Value, e = .returned (v0_) ∧ Kd.R Kd.string 9 w' w.heap.size (fun _ => True) v0_ r ∧ Below w.heap.size w w' := by
 have HR0 := aM_ hr0
 have HC0 := aM_ hc0
 clear hr0 hc0
 have HB := aM_ (Below.refl w.heap.size w)
 have H : ((some (([] : List ByteArray) : List ByteArray)).bind fun y108 => (if y108.length + l0.length < 8796093022208 then (some (y108 ++ l0)) else (none))) = some r := h
 clear h
 obtain ⟨y108, hy108⟩ : ∃ y_ : List ByteArray, y_ = (([] : List ByteArray)) := ⟨_, rfl⟩
 replace H : (if y108.length + l0.length < 8796093022208 then (some (y108 ++ l0)) else (none)) = some r := by (try rw [hy108]); first | with_reducible exact H | with_reducible exact oS_ H | exact H
 have Ny108 := aM_ hy108
 clear hy108
 by_cases c2 : y108.length + l0.length < 8796093022208
 rotate_left
 ·
  rw [if_neg c2] at H
  exact absurd H (by simp)
 rw [if_pos c2] at H
 have LMc2 := aM_ c2
 clear c2
 obtain ⟨y111, hy111⟩ : ∃ y_ : List ByteArray, y_ = (y108 ++ l0) := ⟨_, rfl⟩
 replace H : (some y111) = some r := by (try rw [hy111]); first | with_reducible exact H | with_reducible exact oS_ H | exact H
 have Ny111 := aM_ hy111
 clear hy111
 obtain rfl := Option.some.inj H
 go_enter Tryz.func104, Tryz.ntmps104
 go_wp2_with (first | ((with_reducible refine gD_ (N := 3) rfl ?_); refine Kd.R_lit Kd.string _ 9 ?hg (N := 3) ?hd (xs := ([] : List ByteArray)) (inner := []) (ok := fun _ => True) (okp := fun _ => True) ?hr ?hp (fun _ hk => hk) trivial (Below.refl _ _) (Nat.le_refl _) (by simp) ?_; (case hd => rfl); (case hg => rfl); (case hr => (go_simp; done)); (case hp => exact (Reps.none _ _)); intro v109 w3 ho4 hb hg_ hnew_; clear hg_ hnew_; (rw [← Ny108.out] at ho4); have HO110 := aM_ (k5_ ho4 (bZ_ HB.out)); replace HB := b4_ HB hb; clear hb ho4) | ((with_reducible refine gate_builtin (b := .append) (xs := #[.tmp 3, .tmp 4]) rfl ?_); at_builtin; refine Kd.R_append_rows Kd.string (w0 := w) w.heap.size rfl (.tmp 3) (.tmp 4) 51 9 (.string ⟨#[]⟩) 16 rfl Tryz.underlying51 info9 rfl (by decide) (by omega) v109 y108 l0 _ _ _ (fun _ => True) (fun _ => False) rfl rfl ?aO ?aR (fun _ _ h => h) (fun _ h => h.elim) ?aF ?aB ?aS ?aL ?_; (case aR => repeat (first | exact (k4_ HR0.out HB.out) | with_reducible first | apply cA_ | apply cN_ | apply cD_)); (case aB => exact HB.out); (case aF => exact (fun _ _ => trivial)); (case aO => exact HO110.out); (case aS => exact (bZ_ HB.out)); (case aL => have := LMc2.out; omega); intro v112 w5 ho hb hg hat; rw [← Ny111.out] at ho; have n0_ := aM_ (hb); have n1_ := aM_ (ho); clear HB; clear HO110; have HB := n0_; have HO113 := n1_; clear n0_ n1_; clear ho hb hg hat))
 go_ret
 exact ⟨_, by rfl, by exact HO113.out, by exact HB.out⟩
def sF57.l0 : Nat → List ByteArray → ByteArray → Int → Option (Bool)
 | 0, _, _, _ => none
 | k + 1, x0, x1, x5 => if x5 < (x0.length : Int) then (if 0 ≤ x5 then (if (rdOf eB_ x0 x5).toList = x1.toList then (some true) else (sF57.l0 k x0 x1 (wrap64 (x5 + 1)))) else (none)) else (some false)
def sF57.f (k : Nat) (l0 : List ByteArray) (a1 : ByteArray) : Option (Bool) := sF57.l0 k l0 a1 0
theorem sF57.mono_l : ∀ k, (∀ y0 y1 y2, LeO (sF57.l0 k y0 y1 y2) (sF57.l0 (k + 1) y0 y1 y2))
 | 0 => fun _ _ _ r h => by simp [sF57.l0] at h
 | k + 1 => by
  have ih0 := sF57.mono_l k
  intro y0 y1 y2
  unfold sF57.l0
  repeat' with_reducible first | exact ih0 _ _ _ | exact l3_ _ | exact l0_ _ | refine l2_ ?_ ?_ | refine l1_ ?_ (fun _ => ?_)
theorem sF57.mono : ∀ a0 a1 k, LeO (sF57.f k a0 a1) (sF57.f (k + 1) a0 a1) := by
 intro a0 a1 k
 have ih0 := sF57.mono_l k
 unfold sF57.f
 repeat' with_reducible first | exact ih0 _ _ _ | exact l3_ _ | exact l0_ _ | refine l2_ ?_ ?_ | refine l1_ ?_ (fun _ => ?_)
theorem sF57.calls (k : Nat) (A0 : Option Addr) (c0 : Nat) (l0 : List ByteArray) (a1 : ByteArray) (r : Bool) (w : World) (hr0 : Kd.C Kd.string w A0 l0.length l0) (hc0 : l0.length ≤ c0) (h : sF57.f k l0 a1 = some r) :
  Calls Tryz.prog 79 #[.slice A0 l0.length c0, .string a1] w fun e w' => e = .returned (.bool r) ∧ Drawn0 w w' := by
 have HR0 := aM_ hr0
 have HC0 := aM_ hc0
 clear hr0 hc0
 have H : (sF57.l0 k l0 a1 0) = some r := h
 clear h
 have H' := aM_ H
 clear H
 go_enter Tryz.func79, Tryz.ntmps79
 go_wp2
 go_loopg [5] k (fun kq v5 w' => ∃ (x5_1 : Int), v5 = .int .i64 x5_1 ∧ Aside0 (sF57.l0 kq l0 a1 x5_1 = some r) ∧ Aside0 (kq ≤ k) ∧ Drawn0 w w')
 case atStart => exact ⟨(0), (by rfl), H', ⟨Nat.le_refl _⟩, by repeat (first | exact Drawn0.refl _ | apply Drawn0.step)⟩
 clear H'
 try clear p2
 obtain ⟨x5_1, rfl, HA, HK1, ⟨m1, rfl⟩⟩ := hrel
 cases gk with
 | zero => exact absurd HA.out (by simp [sF57.l0])
 | succ k1 =>
  have H := HA.out
  clear HA
  simp only [sF57.l0] at H
  by_cases c3 : x5_1 < (l0.length : Int)
  rotate_left
  ·
   rw [if_neg c3] at H
   have c3b0 := dF_ c3
   clear c3
   obtain rfl := Option.some.inj H
   go_wp2
   go_ret
   exact ⟨by rfl, by repeat (first | exact Drawn0.refl _ | apply Drawn0.step)⟩
  rw [if_pos c3] at H
  have c3b0 := dT_ c3
  clear c3
  by_cases c4 : 0 ≤ x5_1
  rotate_left
  ·
   rw [if_neg c4] at H
   exact absurd H (by simp)
  rw [if_pos c4] at H
  have c4b0 := dT_ c4
  clear c4
  by_cases c5 : (rdOf eB_ l0 x5_1).toList = a1.toList
  ·
   rw [if_pos c5] at H
   have c5b0 : ((rdOf eB_ l0 x5_1).toList == a1.toList) = true := beq_iff_eq.mpr c5
   have c5b1 : ((rdOf eB_ l0 x5_1).toList != a1.toList) = false := bne_eq_false_iff_eq.mpr c5
   clear c5
   obtain rfl := Option.some.inj H
   have p148 : 0 ≤ (x5_1 : Int) := oD_ ‹_›
   have q148 : x5_1 < (l0.length : Int) := oD_ ‹_›
   obtain ⟨ad148, e148, hx148_0⟩ := Kd.at_string HR0.out x5_1 p148 q148
   cases e148
   replace p148 := eq_true p148
   replace q148 := eq_true q148
   go_wp2
   go_ret
   exact ⟨by rfl, by repeat (first | exact Drawn0.refl _ | apply Drawn0.step)⟩
  rw [if_neg c5] at H
  have c5b0 : ((rdOf eB_ l0 x5_1).toList == a1.toList) = false := beq_eq_false_iff_ne.mpr c5
  have c5b1 : ((rdOf eB_ l0 x5_1).toList != a1.toList) = true := bne_iff_ne.mpr c5
  have H' := aM_ H
  clear H
  have p148 : 0 ≤ (x5_1 : Int) := oD_ ‹_›
  have q148 : x5_1 < (l0.length : Int) := oD_ ‹_›
  obtain ⟨ad148, e148, hx148_0⟩ := Kd.at_string HR0.out x5_1 p148 q148
  cases e148
  replace p148 := eq_true p148
  replace q148 := eq_true q148
  go_wp2
  go_roundg k1
  case measure => have := HK1.out; omega
  case rel => exact ⟨(wrap64 (x5_1 + 1)), (by rfl), H', ⟨by have := HK1.out; omega⟩, by repeat (first | exact Drawn0.refl _ | apply Drawn0.step)⟩
def sF54.f (a0 : Int) (a1 : Int) (a2 : Int) : Option (Bool) := if a0 ≥ a1 then (some (decide (a0 ≤ a2))) else (some false)
theorem sF54.calls (a0 : Int) (a1 : Int) (a2 : Int) (r : Bool) (w : World) (h : sF54.f a0 a1 a2 = some r) :
  Calls Tryz.prog 62 #[.int .i64 a0, .int .i64 a1, .int .i64 a2] w fun e w' => e = .returned (.bool r) ∧ Drawn0 w w' := by
 have H : (if a0 ≥ a1 then (some (decide (a0 ≤ a2))) else (some false)) = some r := h
 clear h
 by_cases c4 : a0 ≥ a1
 ·
  rw [if_pos c4] at H
  have c4b0 := dT_ c4
  clear c4
  obtain rfl := Option.some.inj H
  go_enter Tryz.func62, Tryz.ntmps62
  go_wp2
  go_ret
  exact ⟨by rfl, by repeat (first | exact Drawn0.refl _ | apply Drawn0.step)⟩
 rw [if_neg c4] at H
 have c4b0 := dF_ c4
 clear c4
 obtain rfl := Option.some.inj H
 go_enter Tryz.func62, Tryz.ntmps62
 go_wp2
 go_ret
 exact ⟨by rfl, by repeat (first | exact Drawn0.refl _ | apply Drawn0.step)⟩
mutual
def sF73.j0 : Nat → Int → ByteArray → Int → List ByteArray → List (S72) → Option (List ByteArray × Int)
 | 0, _, _, _, _, _ => none
 | k + 1, x1, x2, x3, x10, x173000 => sF73.l0 k x1 x2 x3 x10 0 x173000
def sF73.l0 : Nat → Int → ByteArray → Int → List ByteArray → Int → List (S72) → Option (List ByteArray × Int)
 | 0, _, _, _, _, _, _ => none
 | k + 1, x1, x2, x3, x10, x11, x173000 => if 0 ≤ x1 then (if x1 < (x173000.length : Int) then (if x11 < (((rd_T72 x173000 x1).f1).length : Int) then (if x3 ≤ 481 then (if (x2.size : Int) < 12 then (if 0 ≤ x11 then ((some (([(wrap64 (97 + ((rd_T88 ((rd_T72 x173000 x1).f1) x11).f0))) % 256] : List Int) : List Int)).bind fun y184 => (if x2.size + (strOfNums y184).size ≤ 9223372036854775807 then ((sF73.f k x173000 ((rd_T88 ((rd_T72 x173000 x1).f1) x11).f1) (x2 ++ (strOfNums y184)) x3).bind fun bt187 => (if x10.length + bt187.1.length < 8796093022208 then (sF73.l0 k x1 x2 bt187.2 (x10 ++ bt187.1) (wrap64 (x11 + 1)) x173000) else (none))) else (none))) else (none)) else (some (x10, x3))) else (some (x10, x3))) else (some (x10, x3))) else (none)) else (none)
def sF73.f : Nat → List (S72) → Int → ByteArray → Int → Option (List ByteArray × Int)
 | 0, _, _, _, _ => none
 | k + 1, l0_0, a1, a2, a3 => (some (([] : List ByteArray) : List ByteArray)).bind fun y173 => (if 0 ≤ a1 then (if a1 < (l0_0.length : Int) then (if (rd_T72 l0_0 a1).f0 = true then (if y173.length < 8796093022208 then (sF73.j0 k a1 a2 (wrap64 (a3 + 1)) (y173 ++ [a2]) l0_0) else (none)) else (sF73.j0 k a1 a2 (wrap64 (a3 + 1)) y173 l0_0)) else (none)) else (none))
end
theorem sF73.mono_l : ∀ k, (∀ y0 y1 y2 y3, LeO (sF73.f k y0 y1 y2 y3) (sF73.f (k + 1) y0 y1 y2 y3)) ∧ (∀ y0 y1 y2 y3 y4, LeO (sF73.j0 k y0 y1 y2 y3 y4) (sF73.j0 (k + 1) y0 y1 y2 y3 y4)) ∧ (∀ y0 y1 y2 y3 y4 y5, LeO (sF73.l0 k y0 y1 y2 y3 y4 y5) (sF73.l0 (k + 1) y0 y1 y2 y3 y4 y5))
 | 0 => ⟨fun _ _ _ _ r h => by simp [sF73.f] at h, fun _ _ _ _ _ r h => by simp [sF73.j0] at h, fun _ _ _ _ _ _ r h => by simp [sF73.l0] at h⟩
 | k + 1 => by
  obtain ⟨ih0, ih1, ih2⟩ := sF73.mono_l k
  refine ⟨?_, ?_, ?_⟩
  ·
   intro y0 y1 y2 y3
   unfold sF73.f
   repeat' with_reducible first | exact ih0 _ _ _ _ | exact ih1 _ _ _ _ _ | exact ih2 _ _ _ _ _ _ | exact l3_ _ | exact l0_ _ | refine l2_ ?_ ?_ | refine l1_ ?_ (fun _ => ?_)
  ·
   intro y0 y1 y2 y3 y4
   unfold sF73.j0
   repeat' with_reducible first | exact ih0 _ _ _ _ | exact ih1 _ _ _ _ _ | exact ih2 _ _ _ _ _ _ | exact l3_ _ | exact l0_ _ | refine l2_ ?_ ?_ | refine l1_ ?_ (fun _ => ?_)
  intro y0 y1 y2 y3 y4 y5
  unfold sF73.l0
  repeat' with_reducible first | exact ih0 _ _ _ _ | exact ih1 _ _ _ _ _ | exact ih2 _ _ _ _ _ _ | exact l3_ _ | exact l0_ _ | refine l2_ ?_ ?_ | refine l1_ ?_ (fun _ => ?_)
theorem sF73.mono : ∀ a0 a1 a2 a3 k, LeO (sF73.f k a0 a1 a2 a3) (sF73.f (k + 1) a0 a1 a2 a3) := by
 intro a0 a1 a2 a3 k
 obtain ⟨ih0, ih1, ih2⟩ := sF73.mono_l k
 exact ih0 a0 a1 a2 a3
theorem sF73.calls (k : Nat) : ∀ (A0_0 : Option Addr) (c0_0 : Nat) (l0_0 : List (S72)) (a1 : Int) (a2 : ByteArray) (a3 : Int) (r1 : List ByteArray) (r2 : Int) (w : World) (hr0_0 : Kd.C k72 w A0_0 l0_0.length l0_0) (hc0_0 : l0_0.length ≤ c0_0) (h : sF73.f k l0_0 a1 a2 a3 = some (r1, r2)),
  Calls Tryz.prog 69 #[.agg #[.slice A0_0 l0_0.length c0_0], .int .i64 a1, .string a2, .int .i64 a3] w fun e w' => ∃ v0_ : Value, e = .returned (.tuple #[v0_, .int .i64 r2]) ∧ Kd.R Kd.string 9 w' w.heap.size (fun _ => True) v0_ r1 ∧ Below w.heap.size w w' := by
 induction k using Nat.strongRecOn with
 | _ k ih =>
 intro A0_0 c0_0 l0_0 a1 a2 a3 r1 r2 w hr0_0 hc0_0 h
 cases k with
 | zero => exact absurd h (by simp [sF73.f])
 | succ k =>
 simp only [sF73.f] at h
 have hu33 := Tryz.underlying33
 have hu88 := Tryz.underlying88
 have HR0_0 := aM_ hr0_0
 have HC0_0 := aM_ hc0_0
 clear hr0_0 hc0_0
 have HB := aM_ (Below.refl w.heap.size w)
 have H : ((some (([] : List ByteArray) : List ByteArray)).bind fun y173 => (if 0 ≤ a1 then (if a1 < (l0_0.length : Int) then (if (rd_T72 l0_0 a1).f0 = true then (if y173.length < 8796093022208 then (sF73.j0 k a1 a2 (wrap64 (a3 + 1)) (y173 ++ [a2]) l0_0) else (none)) else (sF73.j0 k a1 a2 (wrap64 (a3 + 1)) y173 l0_0)) else (none)) else (none))) = some (r1, r2) := h
 clear h
 obtain ⟨y173, hy173⟩ : ∃ y_ : List ByteArray, y_ = (([] : List ByteArray)) := ⟨_, rfl⟩
 replace H : (if 0 ≤ a1 then (if a1 < (l0_0.length : Int) then (if (rd_T72 l0_0 a1).f0 = true then (if y173.length < 8796093022208 then (sF73.j0 k a1 a2 (wrap64 (a3 + 1)) (y173 ++ [a2]) l0_0) else (none)) else (sF73.j0 k a1 a2 (wrap64 (a3 + 1)) y173 l0_0)) else (none)) else (none)) = some (r1, r2) := by (try rw [hy173]); first | with_reducible exact H | with_reducible exact oS_ H | exact H
 have Ny173 := aM_ hy173
 clear hy173
 by_cases c5 : 0 ≤ a1
 rotate_left
 ·
  rw [if_neg c5] at H
  exact absurd H (by simp)
 rw [if_pos c5] at H
 have c5b0 := dT_ c5
 clear c5
 by_cases c6 : a1 < (l0_0.length : Int)
 rotate_left
 ·
  rw [if_neg c6] at H
  exact absurd H (by simp)
 rw [if_pos c6] at H
 have c6b0 := dT_ c6
 clear c6
 have HC7 := aM_ H
 clear H
 go_enter Tryz.func69, Tryz.ntmps69
 go_upto_if 23 with (first | ((with_reducible refine gD_ (N := 4) rfl ?_); (try (refine gate_guard (by rfl) ?_; dsimp only)); refine bE_ ?hg (N := 4) ?hd (cs := #[.slice A0_0 l0_0.length c0_0]) (t := 33) ?hr ?_; (case hd => rfl); (case hg => rfl); (case hr => (go_simp; done)); intro gb172 hg w8 hbox hb; have BK172 := aM_ (hbox); have GW172 := gw_ hg HB; replace HB := b4_ HB hb; clear hb hbox hg) | ((with_reducible refine gD_ (N := 15) rfl ?_); (try (refine gate_guard (by rfl) ?_; dsimp only)); refine Kd.R_lit Kd.string _ 9 ?hg (N := 15) ?hd (xs := ([] : List ByteArray)) (inner := []) (ok := fun _ => True) (okp := fun _ => True) ?hr ?hp (fun _ hk => hk) trivial (Below.refl _ _) (Nat.le_refl _) (by simp) ?_; (case hd => rfl); (case hg => rfl); (case hr => (go_simp; done)); (case hp => exact (Reps.none _ _)); intro v174 w9 ho10 hb hg_ hnew_; clear hg_ hnew_; (rw [← Ny173.out] at ho10); have HO175 := aM_ (k5_ ho10 (bZ_ HB.out)); replace BK172 := b5_ BK172 hb; replace HB := b4_ HB hb; clear hb ho10; have hcz11_0 := c0_ BK172; have hfz11_0 := bF_ BK172.out 0; have p176 : 0 ≤ (a1 : Int) := oD_ ‹_›; have q176 : a1 < (l0_0.length : Int) := oD_ ‹_›; obtain ⟨ad176, A176_1, c176_1, e176, hx176_0, hx176_1, hl176_1, hi176_1⟩ := at_T72 HR0_0.out a1 p176 q176; cases e176; replace hx176_0 := cb_ HB hx176_0; replace hx176_1 := cb_ HB hx176_1; have HR176_1 := aM_ hi176_1; have HC176_1 := aM_ hl176_1; clear hi176_1 hl176_1; replace p176 := eq_true p176; replace q176 := eq_true q176))
 (try simp only [Act.put, sA_, sB_, sC_])
 go_cut [10] (fun v10 wc => ∃ (kq : Nat) (x10_6 : List ByteArray), Aside0 (sF73.j0 kq a1 a2 (wrap64 (a3 + 1)) x10_6 l0_0 = some (r1, r2)) ∧ Aside0 (kq ≤ k) ∧ Aside0 (Kd.R Kd.string 9 wc w.heap.size (fun _ => True) v10 x10_6) ∧ Aside0 (wc.heap[gb172]? = some (.cells #[(.slice (some ad176) l0_0.length c0_0)] 33 (0, 0))) ∧ Aside0 (Below w.heap.size w wc))
 case first =>
  have H := HC7.out
  clear HC7
  obtain ⟨bq12, hbq12⟩ : ∃ b_ : Bool, b_ = ((rd_T72 l0_0 a1).f0) := ⟨_, rfl⟩
  replace H : (if bq12 = true then (if y173.length < 8796093022208 then (sF73.j0 k a1 a2 (wrap64 (a3 + 1)) (y173 ++ [a2]) l0_0) else (none)) else (sF73.j0 k a1 a2 (wrap64 (a3 + 1)) y173 l0_0)) = some (r1, r2) := by rw [← hbq12] at H; exact H
  have Nbq12 := aM_ hbq12
  clear hbq12
  (try rw [← Nbq12.out])
  by_cases c13 : bq12 = true
  ·
   subst c13
   rw [if_pos rfl] at H
   by_cases c14 : y173.length < 8796093022208
   ·
    rw [if_pos c14] at H
    have LMc14 := aM_ c14
    clear c14
    obtain ⟨y177, hy177⟩ : ∃ y_ : List ByteArray, y_ = (y173 ++ [a2]) := ⟨_, rfl⟩
    replace H : (sF73.j0 k a1 a2 (wrap64 (a3 + 1)) y177 l0_0) = some (r1, r2) := by (try rw [hy177]); first | with_reducible exact H | with_reducible exact oS_ H | exact H
    have Ny177 := aM_ hy177
    clear hy177
    have H' := aM_ H
    clear H
    go_wp2_with (first | ((with_reducible refine gate_builtin (b := .append) (xs := #[.tmp 24, .tmp 26]) rfl ?_); (try (refine gate_guard (by rfl) ?_; dsimp only)); at_builtin; refine Kd.R_append Kd.string (w0 := w) w.heap.size rfl (.tmp 24) (.tmp 26) 51 9 (.string ⟨#[]⟩) 16 rfl Tryz.underlying51 info9 rfl (by decide) (by omega) v174 y173 a2 [.string a2] (fun _ => True) (fun _ => False) rfl rfl ?aP (fun _ hk => hk.elim) ?aF ?aO ?aB ?aS ?aL ?_; (case aP => exact rfl); (case aB => exact HB.out); (case aF => exact (fun _ _ => trivial)); (case aO => exact HO175.out); (case aS => exact (bZ_ HB.out)); (case aL => have := LMc14.out; omega); intro v178 w15 ho hb hg hat; rw [← Ny177.out] at ho; have n0_ := aM_ (blk_grown (g := gb172) (o := .cells #[.slice (some ad176) l0_0.length c0_0] 33 (0, 0)) BK172.out hg (k6_ HO175.out BK172.out (by decide))); have n1_ := aM_ (hb); have n2_ := aM_ (ho); clear BK172; clear HB; clear HO175; have BK172 := n0_; have HB := n1_; have HO179 := n2_; clear n0_ n1_ n2_; clear ho hb hg hat))
    go_meet
    case rel => exact ⟨_, (y177), H', ⟨by omega⟩, ⟨HO179.out⟩, ⟨BK172.out⟩, ⟨HB.out⟩⟩
   rw [if_neg c14] at H
   exact absurd H (by simp)
  replace c13 := Bool.eq_false_iff.mpr c13
  subst c13
  replace H : (sF73.j0 k a1 a2 (wrap64 (a3 + 1)) y173 l0_0) = some (r1, r2) := by rw [if_neg (show ¬ (false = true) by decide)] at H; exact H
  have H' := aM_ H
  clear H
  go_wp2
  go_meet
  case rel => exact ⟨_, (y173), H', ⟨by omega⟩, ⟨HO175.out⟩, ⟨BK172.out⟩, ⟨HB.out⟩⟩
 clear HC7
 try clear p1
 try clear q1
 try clear hx1
 try clear p2
 try clear c5b0
 try clear c6b0
 try clear p6
 try clear q12
 try clear hcz11_0
 try clear hfz11_0
 try clear hx176_0
 try clear hx176_1
 try clear p176
 try clear q176
 obtain ⟨kq, x10_6, HA, HJ6, HO_10, BK172, HB⟩ := hcut
 cases kq with
 | zero => exact absurd HA.out (by simp [sF73.j0])
 | succ kj6 =>
  have H := HA.out
  clear HA
  simp only [sF73.j0] at H
  have H' := aM_ H
  clear H
  go_wp2
  go_loopg [3, 10, 11] kj6 (fun kq v3 v10 v11 w' => ∃ (x3_2 : Int) (x10_2 : List ByteArray) (x11_2 : Int), v3 = .int .i64 x3_2 ∧ v11 = .int .i64 x11_2 ∧ Aside0 (sF73.l0 kq a1 a2 x3_2 x10_2 x11_2 l0_0 = some (r1, r2)) ∧ Aside0 (kq ≤ kj6) ∧ Aside0 (Kd.R Kd.string 9 w' w.heap.size (fun _ => True) v10 x10_2) ∧ Aside0 (w'.heap[gb172]? = some (.cells #[(.slice (some ad176) l0_0.length c0_0)] 33 (0, 0))) ∧ Aside0 (Below w.heap.size w w'))
  case atStart => exact ⟨((wrap64 (a3 + 1))), (x10_6), (0), (by rfl), (by rfl), H', ⟨Nat.le_refl _⟩, ⟨HO_10.out⟩, ⟨BK172.out⟩, ⟨HB.out⟩⟩
  clear H'
  try clear p1
  try clear q1
  try clear hx1
  try clear p2
  try clear c5b0
  try clear c6b0
  try clear p6
  try clear q12
  try clear hcz11_0
  try clear hfz11_0
  try clear hx176_0
  try clear hx176_1
  try clear p1
  try clear p176
  try clear p2
  try clear p6
  try clear q1
  try clear q12
  try clear q176
  obtain ⟨x3_2, x10_2, x11_2, rfl, rfl, HA, HK2, HO_10, BK172, HB⟩ := hrel
  cases gk with
  | zero => exact absurd HA.out (by simp [sF73.l0])
  | succ k2 =>
   have H := HA.out
   clear HA
   simp only [sF73.l0] at H
   by_cases c16 : 0 ≤ a1
   rotate_left
   ·
    rw [if_neg c16] at H
    exact absurd H (by simp)
   rw [if_pos c16] at H
   have c16b0 := dT_ c16
   clear c16
   by_cases c17 : a1 < (l0_0.length : Int)
   rotate_left
   ·
    rw [if_neg c17] at H
    exact absurd H (by simp)
   rw [if_pos c17] at H
   have c17b0 := dT_ c17
   clear c17
   by_cases c18 : x11_2 < (((rd_T72 l0_0 a1).f1).length : Int)
   rotate_left
   ·
    rw [if_neg c18] at H
    have c18b0 := dF_ c18
    clear c18
    simp only [Option.some.injEq, Prod.mk.injEq] at H
    obtain ⟨rfl, rfl⟩ := H
    have hcz38_0 := c0_ BK172
    have hfz38_0 := bF_ BK172.out 0
    have p180 : 0 ≤ (a1 : Int) := oD_ ‹_›
    have q180 : a1 < (l0_0.length : Int) := oD_ ‹_›
    obtain ⟨ad180, A180_1, c180_1, e180, hx180_0, hx180_1, hl180_1, hi180_1⟩ := at_T72 HR0_0.out a1 p180 q180
    obtain rfl : ad176 = ad180 := (by injection e180)
    replace hx180_0 := cb_ HB hx180_0
    replace hx180_1 := cb_ HB hx180_1
    have HR180_1 := aM_ hi180_1
    have HC180_1 := aM_ hl180_1
    clear hi180_1 hl180_1
    replace p180 := eq_true p180
    replace q180 := eq_true q180
    go_wp2
    go_ret2
    exact ⟨_, by rfl, by exact HO_10.out, by exact HB.out⟩
   rw [if_pos c18] at H
   have c18b0 := dT_ c18
   clear c18
   by_cases c19 : x3_2 ≤ 481
   rotate_left
   ·
    rw [if_neg c19] at H
    have c19b0 := dF_ c19
    clear c19
    simp only [Option.some.injEq, Prod.mk.injEq] at H
    obtain ⟨rfl, rfl⟩ := H
    have hcz37_0 := c0_ BK172
    have hfz37_0 := bF_ BK172.out 0
    have p180 : 0 ≤ (a1 : Int) := oD_ ‹_›
    have q180 : a1 < (l0_0.length : Int) := oD_ ‹_›
    obtain ⟨ad180, A180_1, c180_1, e180, hx180_0, hx180_1, hl180_1, hi180_1⟩ := at_T72 HR0_0.out a1 p180 q180
    obtain rfl : ad176 = ad180 := (by injection e180)
    replace hx180_0 := cb_ HB hx180_0
    replace hx180_1 := cb_ HB hx180_1
    have HR180_1 := aM_ hi180_1
    have HC180_1 := aM_ hl180_1
    clear hi180_1 hl180_1
    replace p180 := eq_true p180
    replace q180 := eq_true q180
    go_wp2
    go_ret2
    exact ⟨_, by rfl, by exact HO_10.out, by exact HB.out⟩
   rw [if_pos c19] at H
   have c19b0 := dT_ c19
   clear c19
   by_cases c20 : (a2.size : Int) < 12
   rotate_left
   ·
    rw [if_neg c20] at H
    have c20b0 := dF_ c20
    have c20b1 : decide (a2.size < 12) = false := dF_ (by omega)
    clear c20
    simp only [Option.some.injEq, Prod.mk.injEq] at H
    obtain ⟨rfl, rfl⟩ := H
    have hcz36_0 := c0_ BK172
    have hfz36_0 := bF_ BK172.out 0
    have p180 : 0 ≤ (a1 : Int) := oD_ ‹_›
    have q180 : a1 < (l0_0.length : Int) := oD_ ‹_›
    obtain ⟨ad180, A180_1, c180_1, e180, hx180_0, hx180_1, hl180_1, hi180_1⟩ := at_T72 HR0_0.out a1 p180 q180
    obtain rfl : ad176 = ad180 := (by injection e180)
    replace hx180_0 := cb_ HB hx180_0
    replace hx180_1 := cb_ HB hx180_1
    have HR180_1 := aM_ hi180_1
    have HC180_1 := aM_ hl180_1
    clear hi180_1 hl180_1
    replace p180 := eq_true p180
    replace q180 := eq_true q180
    go_wp2
    go_ret2
    exact ⟨_, by rfl, by exact HO_10.out, by exact HB.out⟩
   rw [if_pos c20] at H
   have c20b0 := dT_ c20
   have c20b1 : decide (a2.size < 12) = true := dT_ (by omega)
   clear c20
   by_cases c21 : 0 ≤ x11_2
   rotate_left
   ·
    rw [if_neg c21] at H
    exact absurd H (by simp)
   rw [if_pos c21] at H
   have c21b0 := dT_ c21
   clear c21
   obtain ⟨y184, hy184⟩ : ∃ y_ : List Int, y_ = (([(wrap64 (97 + ((rd_T88 ((rd_T72 l0_0 a1).f1) x11_2).f0))) % 256] : List Int)) := ⟨_, rfl⟩
   replace H : (if a2.size + (strOfNums y184).size ≤ 9223372036854775807 then ((sF73.f k2 l0_0 ((rd_T88 ((rd_T72 l0_0 a1).f1) x11_2).f1) (a2 ++ (strOfNums y184)) x3_2).bind fun bt187 => (if x10_2.length + bt187.1.length < 8796093022208 then (sF73.l0 k2 a1 a2 bt187.2 (x10_2 ++ bt187.1) (wrap64 (x11_2 + 1)) l0_0) else (none))) else (none)) = some (r1, r2) := by (try rw [hy184]); first | with_reducible exact H | with_reducible exact oS_ H | exact H
   have Ny184 := aM_ hy184
   clear hy184
   by_cases c22 : a2.size + (strOfNums y184).size ≤ 9223372036854775807
   rotate_left
   ·
    rw [if_neg c22] at H
    exact absurd H (by simp)
   rw [if_pos c22] at H
   have c22b0 := eq_true c22
   have c22b1 := dT_ c22
   try have c22b2 : (9223372036854775807 < a2.size + (strOfNums y184).size) = False := eq_false (Nat.not_lt.2 c22)
   replace H := oB_.mp H
   obtain ⟨⟨t187, t190⟩, A230, H⟩ := H
   try dsimp only at H
   have A23 := aM_ A230
   clear A230
   by_cases c24 : x10_2.length + t187.length < 8796093022208
   rotate_left
   ·
    rw [if_neg c24] at H
    exact absurd H (by simp)
   rw [if_pos c24] at H
   have LMc24 := aM_ c24
   clear c24
   obtain ⟨y191, hy191⟩ : ∃ y_ : List ByteArray, y_ = (x10_2 ++ t187) := ⟨_, rfl⟩
   replace H : (sF73.l0 k2 a1 a2 t190 y191 (wrap64 (x11_2 + 1)) l0_0) = some (r1, r2) := by (try rw [hy191]); first | with_reducible exact H | with_reducible exact oS_ H | exact H
   have Ny191 := aM_ hy191
   clear hy191
   have H' := aM_ H
   clear H
   have hcz25_0 := c0_ BK172
   have hfz25_0 := bF_ BK172.out 0
   have p180 : 0 ≤ (a1 : Int) := oD_ ‹_›
   have q180 : a1 < (l0_0.length : Int) := oD_ ‹_›
   obtain ⟨ad180, A180_1, c180_1, e180, hx180_0, hx180_1, hl180_1, hi180_1⟩ := at_T72 HR0_0.out a1 p180 q180
   obtain rfl : ad176 = ad180 := (by injection e180)
   replace hx180_0 := cb_ HB hx180_0
   replace hx180_1 := cb_ HB hx180_1
   have HR180_1 := aM_ hi180_1
   have HC180_1 := aM_ hl180_1
   clear hi180_1 hl180_1
   replace p180 := eq_true p180
   replace q180 := eq_true q180
   have p181 : 0 ≤ (a1 : Int) := oD_ ‹_›
   have q181 : a1 < (l0_0.length : Int) := oD_ ‹_›
   obtain ⟨ad181, A181_1, c181_1, e181, hx181_0, hx181_1, hl181_1, hi181_1⟩ := at_T72 HR0_0.out a1 p181 q181
   obtain rfl : ad176 = ad181 := (by injection e181)
   replace hx181_0 := cb_ HB hx181_0
   replace hx181_1 := cb_ HB hx181_1
   have HR181_1 := aM_ hi181_1
   have HC181_1 := aM_ hl181_1
   clear hi181_1 hl181_1
   replace p181 := eq_true p181
   replace q181 := eq_true q181
   have ea_ := Option.some.inj (hx180_1.symm.trans hx181_1)
   injection ea_ with ea_ en_ ec_
   subst ea_
   subst ec_
   clear en_
   have p182 : 0 ≤ (x11_2 : Int) := oD_ ‹_›
   have q182 : x11_2 < (((rd_T72 l0_0 a1).f1).length : Int) := oD_ ‹_›
   obtain ⟨ad182, e182, hx182_0, hx182_1⟩ := at_T88 HR181_1.out x11_2 p182 q182
   cases e182
   replace hx182_0 := cb_ HB hx182_0
   replace hx182_1 := cb_ HB hx182_1
   replace p182 := eq_true p182
   replace q182 := eq_true q182
   go_wp2_with (first | ((with_reducible refine gD_ (N := 12) rfl ?_); (try (refine gate_guard (by rfl) ?_; dsimp only)); refine bE_ ?hg (N := 12) ?hd (cs := #[.int .i64 0, .int .i64 0]) (t := 88) ?hr ?_; (case hd => rfl); (case hg => rfl); (case hr => (go_simp; done)); intro gb183 hg w26 hbox hb; replace HO_10 := k9_ HO_10 hb; have BK183 := aM_ (hbox); have GW183 := gw_ hg HB; replace HB := b4_ HB hb; have NB172_183 := nb_ hg BK172; have NB183_172 := ns_ NB172_183; replace BK172 := b5_ BK172 hb; clear hb hbox hg; have hnb27 := NB183_172.out; have hnc27 := NB172_183.out; have hcz28_0 := c0_ BK183; have hcz28_1 := c1_ BK183; have hfz28_0 := bF_ BK183.out 0; have hfz28_1 := bF_ BK183.out 1; have hcz29_0 := c0_ BK172; have hfz29_0 := bF_ BK172.out 0) | ((with_reducible refine gD_ (N := 66) rfl ?_); (try (refine gate_guard (by rfl) ?_; dsimp only)); refine Kd.R_lit (Kd.int .u8) _ 5 ?hg (N := 66) ?hd (xs := ([(wrap64 (97 + ((rd_T88 ((rd_T72 l0_0 a1).f1) x11_2).f0))) % 256] : List Int)) (inner := [.int .u8 ((wrap64 (97 + ((rd_T88 ((rd_T72 l0_0 a1).f1) x11_2).f0))) % 256)]) (ok := fun _ => True) (okp := fun _ => True) ?hr ?hp (fun _ hk => hk) trivial (Below.refl _ _) (Nat.le_refl _) (by simp) ?_; (case hd => rfl); (case hg => rfl); (case hr => (go_simp; done)); (case hp => exact (Reps.one (show Kd.M (Kd.int .u8) _ _ _ ((wrap64 (97 + ((rd_T88 ((rd_T72 l0_0 a1).f1) x11_2).f0))) % 256) [.int .u8 ((wrap64 (97 + ((rd_T88 ((rd_T72 l0_0 a1).f1) x11_2).f0))) % 256)] from rfl) (Reps.none _ _))); intro v185 w30 ho31 hb hg_ hnew_; clear hg_ hnew_; (rw [← Ny184.out] at ho31); replace HO_10 := aM_ (kB_ (by exact (kM_ (kG_ (kG_ (kT_ HO_10.out BK183.out (by decide)))) (fun _ h_ => h_.1))) hb); have HO186 := aM_ (k5_ ho31 (bZ_ (by repeat with_reducible first | exact HB.out | apply bA_ | apply bN_ | apply bD_ | refine bS_ ?_ (Aside0.out ‹_›)))); replace BK172 := aM_ (bB_ (g := gb172) (o := .cells #[.slice (some ad176) l0_0.length c0_0] 33 (0, 0)) (by exact br_ NB172_183.out (br_ NB172_183.out (BK172.out))) hb); replace BK183 := aM_ (bB_ (g := gb183) (o := .cells #[.int .i64 ((rd_T88 ((rd_T72 l0_0 a1).f1) x11_2).f0), .int .i64 ((rd_T88 ((rd_T72 l0_0 a1).f1) x11_2).f1)] 88 (0, 0)) (by refine bP_ (cs := #[.int .i64 ((rd_T88 ((rd_T72 l0_0 a1).f1) x11_2).f0), .int .i64 0]) ?_ 1 _ rfl; refine bP_ (cs := #[.int .i64 0, .int .i64 0]) ?_ 0 _ rfl; exact BK183.out) hb); replace HB := aM_ (bT_ (by repeat with_reducible first | exact HB.out | apply bA_ | apply bN_ | apply bD_ | refine bS_ ?_ (Aside0.out ‹_›)) hb); clear hb ho31; have hcv32 := own_string (P := Tryz.prog) Tryz.underlying115 Tryz.underlying5 Tryz.underlying9 (Kd.own_of_R HO186.out)) | (refine gs_ 70 Tryz.func69 #[.agg #[.slice (some ad176) l0_0.length c0_0], .int .i64 ((rd_T88 ((rd_T72 l0_0 a1).f1) x11_2).f1), .string (a2 ++ (strOfNums y184)), .int .i64 x3_2] ?_; (with_reducible refine (ih k2 (by have := HJ6.out; have := HK2.out; omega) _ _ l0_0 ((rd_T88 ((rd_T72 l0_0 a1).f1) x11_2).f1) (a2 ++ (strOfNums y184)) x3_2 t187 t190 _ ?side1 ?side2 A23.out).mono ?_); (case side1 => repeat (first | exact (k4_ HR0_0.out HB.out) | with_reducible first | apply cA_ | apply cN_ | apply cD_)); (case side2 => exact HC0_0.out); rintro e w33 ⟨v188, rfl, ho0, hb⟩; refine ⟨_, rfl, ?_⟩; replace HO186 := k9_ HO186 hb; have HO189 := aM_ (k5_ (Kd.R_new' ho0 (Kd.R_lt HO_10.out)) (bZ_ HB.out)); replace HO_10 := aM_ (Kd.R_elder' HO_10.out (Kd.R_base ho0) hb); replace BK172 := b5_ BK172 hb; replace BK183 := b5_ BK183 hb; replace HB := b4_ HB hb; (try clear hb); (try clear ho0); obtain ⟨Ao35, co35, eo35⟩ := kS_ HO189.out; subst eo35) | ((with_reducible refine gate_builtin (b := .append) (xs := #[.tmp 73, .tmp 74]) rfl ?_); (try (refine gate_guard (by rfl) ?_; dsimp only)); at_builtin; refine Kd.R_append_rows Kd.string (w0 := w) w.heap.size rfl (.tmp 73) (.tmp 74) 51 9 (.string ⟨#[]⟩) 16 rfl Tryz.underlying51 info9 rfl (by decide) (by omega) u10 x10_2 t187 _ _ _ (fun k_ => some k_ ≠ (.slice Ao35 t187.length co35 : Value).ownBlock) (fun _ => False) rfl rfl ?aO ?aR (fun _ _ h => h) (fun _ h => h.elim) ?aF ?aB ?aS ?aL ?_; (case aR => repeat (first | exact (kR_ HO189.out).2.2 | with_reducible first | apply cA_ | apply cN_ | apply cD_)); (case aB => exact HB.out); (case aF => exact (fun k_ hk => Kd.fresh' (Kd.R_lt HO189.out) k_ hk)); (case aO => exact (by exact kM_ HO_10.out (fun _ hk => hk.2))); (case aS => exact (bZ_ HB.out)); (case aL => have := LMc24.out; omega); intro v192 w34 ho hb hg hat; rw [← Ny191.out] at ho; have n0_ := aM_ (blk_grown (g := gb172) (o := .cells #[.slice (some ad176) l0_0.length c0_0] 33 (0, 0)) BK172.out hg (k6_ HO_10.out BK172.out (by decide))); have n1_ := aM_ (blk_grown (g := gb183) (o := .cells #[.int .i64 ((rd_T88 ((rd_T72 l0_0 a1).f1) x11_2).f0), .int .i64 ((rd_T88 ((rd_T72 l0_0 a1).f1) x11_2).f1)] 88 (0, 0)) BK183.out hg (k6_ HO_10.out BK183.out (by decide))); have n2_ := aM_ (Kd.R_over' HO186.out (Kd.R_typed HO_10.out) (by decide) hg); have n3_ := aM_ (Kd.R_after (ok := (fun _ => True)) HO189.out hg hat); have n4_ := aM_ (hb); have n5_ := aM_ (ho); clear BK172; clear BK183; clear HO186; clear HO189; clear HB; clear HO_10; have BK172 := n0_; have BK183 := n1_; have HO186 := n2_; have HO189 := n3_; have HB := n4_; have HO193 := n5_; clear n0_ n1_ n2_ n3_ n4_ n5_; clear ho hb hg hat))
   go_roundg k2
   case measure => have := HJ6.out; have := HK2.out; omega
   case rel => exact ⟨(t190), (y191), (wrap64 (x11_2 + 1)), (by rfl), (by rfl), H', ⟨by have := HJ6.out; have := HK2.out; omega⟩, ⟨by exact kM_ HO193.out (fun _ hk => trivial)⟩, ⟨BK172.out⟩, ⟨HB.out⟩⟩
mutual
def sF65.l0 : Nat → ByteArray → Int → Option (Bool)
 | 0, _, _ => none
 | k + 1, x0, x3 => if x3 < (x0.size : Int) then (sF65.j1 k x0 x3 (decide (x3 ≤ 12))) else (sF65.j1 k x0 x3 false)
def sF65.j1 : Nat → ByteArray → Int → Bool → Option (Bool)
 | 0, _, _, _ => none
 | k + 1, x0, x3, x11 => if x11 = true then (if 0 ≤ x3 then (if x3 < (x0.size : Int) then (if (bt x0 x3) < 97 then (some false) else (if (bt x0 x3) > 122 then (some false) else (sF65.l0 k x0 (wrap64 (x3 + 1))))) else (none)) else (none)) else (some (decide ((x0.size : Int) ≤ 12)))
end
def sF65.f (k : Nat) (a0 : ByteArray) : Option (Bool) := sF65.l0 k a0 0
theorem sF65.mono_l : ∀ k, (∀ y0 y1, LeO (sF65.l0 k y0 y1) (sF65.l0 (k + 1) y0 y1)) ∧ (∀ y0 y1 y2, LeO (sF65.j1 k y0 y1 y2) (sF65.j1 (k + 1) y0 y1 y2))
 | 0 => ⟨fun _ _ r h => by simp [sF65.l0] at h, fun _ _ _ r h => by simp [sF65.j1] at h⟩
 | k + 1 => by
  obtain ⟨ih0, ih1⟩ := sF65.mono_l k
  refine ⟨?_, ?_⟩
  ·
   intro y0 y1
   unfold sF65.l0
   repeat' with_reducible first | exact ih0 _ _ | exact ih1 _ _ _ | exact l3_ _ | exact l0_ _ | refine l2_ ?_ ?_ | refine l1_ ?_ (fun _ => ?_)
  intro y0 y1 y2
  unfold sF65.j1
  repeat' with_reducible first | exact ih0 _ _ | exact ih1 _ _ _ | exact l3_ _ | exact l0_ _ | refine l2_ ?_ ?_ | refine l1_ ?_ (fun _ => ?_)
theorem sF65.mono : ∀ a0 k, LeO (sF65.f k a0) (sF65.f (k + 1) a0) := by
 intro a0 k
 obtain ⟨ih0, ih1⟩ := sF65.mono_l k
 unfold sF65.f
 repeat' with_reducible first | exact ih0 _ _ | exact ih1 _ _ _ | exact l3_ _ | exact l0_ _ | refine l2_ ?_ ?_ | refine l1_ ?_ (fun _ => ?_)
theorem sF65.calls (k : Nat) (a0 : ByteArray) (r : Bool) (w : World) (h : sF65.f k a0 = some r) :
  Calls Tryz.prog 58 #[.string a0] w fun e w' => e = .returned (.bool r) ∧ Drawn0 w w' := by
 have H : (sF65.l0 k a0 0) = some r := h
 clear h
 have H' := aM_ H
 clear H
 go_enter Tryz.func58, Tryz.ntmps58
 go_wp2
 go_loopg [3] k (fun kq v3 w' => ∃ (x3_1 : Int), v3 = .int .i64 x3_1 ∧ Aside0 (sF65.l0 kq a0 x3_1 = some r) ∧ Aside0 (kq ≤ k) ∧ Drawn0 w w')
 case atStart => exact ⟨(0), (by rfl), H', ⟨Nat.le_refl _⟩, by repeat (first | exact Drawn0.refl _ | apply Drawn0.step)⟩
 clear H'
 obtain ⟨x3_1, rfl, HA, HK1, ⟨m1, rfl⟩⟩ := hrel
 cases gk with
 | zero => exact absurd HA.out (by simp [sF65.l0])
 | succ k1 =>
  have H := HA.out
  clear HA
  simp only [sF65.l0] at H
  have HC2 := aM_ H
  clear H
  go_upto_region 2 with (fail)
  go_cut [11] (fun v11 wc => ∃ (kq : Nat) (x11_1 : Bool), v11 = .bool x11_1 ∧ Aside0 (sF65.j1 kq a0 x3_1 x11_1 = some r) ∧ Aside0 (kq ≤ k1) ∧ Drawn0 w wc)
  case first =>
   have H := HC2.out
   clear HC2
   by_cases c3 : x3_1 < (a0.size : Int)
   ·
    rw [if_pos c3] at H
    have c3b0 := dT_ c3
    clear c3
    (skip)
    have H' := aM_ H
    clear H
    go_wp2
    go_meet
    case rel => exact ⟨_, (decide (x3_1 ≤ 12)), (by rfl), H', ⟨by have := HK1.out; omega⟩, by repeat (first | exact Drawn0.refl _ | apply Drawn0.step)⟩
   rw [if_neg c3] at H
   have c3b0 := dF_ c3
   clear c3
   (skip)
   have H' := aM_ H
   clear H
   go_wp2
   go_meet
   case rel => exact ⟨_, (false), (by rfl), H', ⟨by have := HK1.out; omega⟩, by repeat (first | exact Drawn0.refl _ | apply Drawn0.step)⟩
  clear HC2
  try clear p2
  try clear c3b0
  obtain ⟨kq, x11_1, rfl, HA, HJ1, ⟨mc1, rfl⟩⟩ := hcut
  cases kq with
  | zero => exact absurd HA.out (by simp [sF65.j1])
  | succ kj1 =>
   have H := HA.out
   clear HA
   simp only [sF65.j1] at H
   by_cases c4 : x11_1 = true
   rotate_left
   ·
    replace c4 := Bool.eq_false_iff.mpr c4
    subst c4
    replace H : (some (decide ((a0.size : Int) ≤ 12))) = some r := by rw [if_neg (show ¬ (false = true) by decide)] at H; exact H
    obtain rfl := Option.some.inj H
    go_wp2
    go_ret
    exact ⟨by rfl, by repeat (first | exact Drawn0.refl _ | apply Drawn0.step)⟩
   subst c4
   rw [if_pos rfl] at H
   by_cases c5 : 0 ≤ x3_1
   rotate_left
   ·
    rw [if_neg c5] at H
    exact absurd H (by simp)
   rw [if_pos c5] at H
   have c5b0 := dT_ c5
   clear c5
   by_cases c6 : x3_1 < (a0.size : Int)
   rotate_left
   ·
    rw [if_neg c6] at H
    exact absurd H (by simp)
   rw [if_pos c6] at H
   have c6b0 := dT_ c6
   clear c6
   by_cases c8 : (bt a0 x3_1) < 97
   ·
    rw [if_pos c8] at H
    have c8b0 := dT_ c8
    clear c8
    obtain rfl := Option.some.inj H
    have p7 : 0 ≤ (x3_1 : Int) := oD_ ‹_›
    have q7 : x3_1 < (a0.size : Int) := oD_ ‹_›
    have hx7 := bt_at a0 x3_1
    replace p7 := eq_true p7
    replace q7 := eq_true q7
    go_wp2
    go_ret
    exact ⟨by rfl, by repeat (first | exact Drawn0.refl _ | apply Drawn0.step)⟩
   rw [if_neg c8] at H
   have c8b0 := dF_ c8
   clear c8
   by_cases c10 : (bt a0 x3_1) > 122
   ·
    rw [if_pos c10] at H
    have c10b0 := dT_ c10
    clear c10
    obtain rfl := Option.some.inj H
    have p7 : 0 ≤ (x3_1 : Int) := oD_ ‹_›
    have q7 : x3_1 < (a0.size : Int) := oD_ ‹_›
    have hx7 := bt_at a0 x3_1
    replace p7 := eq_true p7
    replace q7 := eq_true q7
    have p9 : 0 ≤ (x3_1 : Int) := oD_ ‹_›
    have q9 : x3_1 < (a0.size : Int) := oD_ ‹_›
    have hx9 := bt_at a0 x3_1
    replace p9 := eq_true p9
    replace q9 := eq_true q9
    go_wp2
    go_ret
    exact ⟨by rfl, by repeat (first | exact Drawn0.refl _ | apply Drawn0.step)⟩
   rw [if_neg c10] at H
   have c10b0 := dF_ c10
   clear c10
   have H' := aM_ H
   clear H
   have p7 : 0 ≤ (x3_1 : Int) := oD_ ‹_›
   have q7 : x3_1 < (a0.size : Int) := oD_ ‹_›
   have hx7 := bt_at a0 x3_1
   replace p7 := eq_true p7
   replace q7 := eq_true q7
   have p9 : 0 ≤ (x3_1 : Int) := oD_ ‹_›
   have q9 : x3_1 < (a0.size : Int) := oD_ ‹_›
   have hx9 := bt_at a0 x3_1
   replace p9 := eq_true p9
   replace q9 := eq_true q9
   go_wp2
   go_roundg kj1
   case measure => have := HK1.out; have := HJ1.out; omega
   case rel => exact ⟨(wrap64 (x3_1 + 1)), (by rfl), H', ⟨by have := HK1.out; have := HJ1.out; omega⟩, by repeat (first | exact Drawn0.refl _ | apply Drawn0.step)⟩
end Go.Proofs.YtnnkedeohfbkeaaGreatDoor.P
namespace Go.Proofs.YtnnkedeohfbkeaaGreatDoor.P
open Go.RowKit Go.Proofs.YtnnkedeohfbkeaaGreatDoorW.PrintWords Go.Proofs.YtnnkedeohfbkeaaGreatDoorW.PrintLast Go.Proofs.YtnnkedeohfbkeaaGreatDoorW.PrintMore
attribute [local go_sem] max2_int min2_int max_two min_two max_three min_three max_four min_four
theorem eqArr2 {P : Program} {t e : TypeId} (ht : P.underlying t = some (.array 2 e)) (he : P.underlying e = some (.int .i64)) (d : Nat) (w : World) (hs : (sizeOf e).run P w = .ok 1 w) (hp : ∀ (c : Array Value) (i : Nat) (v : Value), c[i]? = some v → (part e c i).run P w = .ok v w) (x0 y0 x1 y1 : Int) :
    (Op.equalIn (d + 2) t (.agg #[.int .i64 x0, .int .i64 x1]) (.agg #[.int .i64 y0, .int .i64 y1])).run P w = .ok (x0 == y0 && (x1 == y1)) w := by
  have q := fun (a b : Int) => run_equalIn_int w d e .i64 .i64 a b he
  have a0 := hp #[.int .i64 x0, .int .i64 x1] 0 _ rfl
  have a1 := hp #[.int .i64 x0, .int .i64 x1] 1 _ rfl
  have b0 := hp #[.int .i64 y0, .int .i64 y1] 0 _ rfl
  have b1 := hp #[.int .i64 y0, .int .i64 y1] 1 _ rfl
  rw [Op.equalIn]
  simp only [Sem.run_bind, run_underlying ht, Result.andThen_ok, hs]
  rw [Std.Legacy.Range.forIn_eq_forIn_range']
  simp only [Std.Legacy.Range.size, List.range', List.forIn_cons, List.forIn_nil, Sem.run_bind, Nat.zero_mul, Nat.one_mul, a0, a1, b0, b1, q, Result.andThen_ok, Nat.zero_add, Sem.run_ite, Sem.run_pure]
  cases h0 : (x0 == y0) <;> cases h1 : (x1 == y1) <;> simp [h0, h1, a1, b1, q, Result.andThen]
theorem eqA88 (d : Nat) (w : World) (x0 y0 : Int) (x1 y1 : Int) :
    (Op.equalIn (d + 2) 88 (.agg #[.int .i64 x0, .int .i64 x1]) (.agg #[.int .i64 y0, .int .i64 y1])).run Tryz.prog w = .ok (x0 == y0 && (x1 == y1)) w := by
  refine eqArr2 Tryz.underlying88 Tryz.underlying3 d w (by go_simp) ?_ x0 y0 x1 y1
  intro c i v hc
  go_simp
end Go.Proofs.YtnnkedeohfbkeaaGreatDoor.P
namespace Go.Proofs.YtnnkedeohfbkeaaGreatDoor.P
open Go.RowKit Go.Proofs.YtnnkedeohfbkeaaGreatDoorW.PrintWords Go.Proofs.YtnnkedeohfbkeaaGreatDoorW.PrintLast Go.Proofs.YtnnkedeohfbkeaaGreatDoorW.PrintMore
open Go.Proofs.YtnnkedeohfbkeaaGreatDoorW.PrintWords renaming blk_frozen → bF_, blk_cell → bC_, below_set → bS_, blk_below → bB_, below_step → bT_, pw_below_drewN → bN_, below_size → bZ_, below_drew1 → bD_, below_alloc → bA_, blk_far → bR_, gate_callee → gC_, gate_dst → gD_, box_event → bE_, blk_drew → b1_, blk_put → bP_, blk_drewN → b2_, blk_alloc → b3_, blk_lt → bL_, cell_far → cF_
open Go.Proofs.YtnnkedeohfbkeaaGreatDoorW.PrintLast renaming any_of → aO_, i64_w → i6_, i32_w → i3_, take_ofW → tW_
open Go.Proofs.YtnnkedeohfbkeaaGreatDoorW.PrintWords.Kd renaming R_below → kB_, R_mono → kM_, R_far → kF_, R_reads' → kR_, R_types → kT_, R_slice → kS_, R_celln → kC_, R_alloc → k1_, R_drewN → k2_, R_drew → k3_, C_below → k4_, R_lower → k5_, R_ne → k6_, own_blk → k7_
open Go.Proofs.YtnnkedeohfbkeaaGreatDoorW.PrintWords.LeO renaming none → l0_, bind → l1_, ite → l2_, refl → l3_
open World renaming block_lt_of_cell? → wB_
open _root_.Option renaming bind_eq_some_iff → oB_
open _root_.ByteArray renaming empty → eB_
open List renaming setIfInBounds_toArray → sA_, set_cons_zero → sB_, set_cons_succ → sC_, map_toArray → sD_, map_cons → sE_, map_nil → sF_, length_drop → sG_, length_take → sH_
open Bool renaming true → ty, false → fy
open Aside0 renaming mk → aM_
attribute [local go_sem] max2_int min2_int max_two min_two max_three min_three max_four min_four
attribute [local go_sem high] eqA88
mutual
def sF70.l0 : Nat → Int → List (S72) → List (S72) → Option (Bool)
 | 0, _, _, _ => none
 | k + 1, x5, x207000, x208000 => if x5 < (x207000.length : Int) then (if 0 ≤ x5 then (if x5 < (x208000.length : Int) then (if (((rd_T72 x207000 x5).f0) != ((rd_T72 x208000 x5).f0)) = true then (sF70.j1 k x5 true x207000 x208000 ((rd_T72 x207000 x5).f0) ((rd_T72 x207000 x5).f1) ((rd_T72 x208000 x5).f0) ((rd_T72 x208000 x5).f1)) else (sF70.j1 k x5 ((((rd_T72 x207000 x5).f1).length : Int) != (((rd_T72 x208000 x5).f1).length : Int)) x207000 x208000 ((rd_T72 x207000 x5).f0) ((rd_T72 x207000 x5).f1) ((rd_T72 x208000 x5).f0) ((rd_T72 x208000 x5).f1))) else (none)) else (none)) else (some true)
def sF70.j1 : Nat → Int → Bool → List (S72) → List (S72) → Bool → List (S88) → Bool → List (S88) → Option (Bool)
 | 0, _, _, _, _, _, _, _, _ => none
 | k + 1, x5, x46, x207000, x208000, x211000, x211001, x212000, x212001 => if x46 = true then (some false) else (sF70.l1 k x5 0 x207000 x208000 x211000 x211001 x212000 x212001)
def sF70.l1 : Nat → Int → Int → List (S72) → List (S72) → Bool → List (S88) → Bool → List (S88) → Option (Bool)
 | 0, _, _, _, _, _, _, _, _ => none
 | k + 1, x5, x8, x207000, x208000, x211000, x211001, x212000, x212001 => if x8 < (x211001.length : Int) then (if 0 ≤ x8 then (if x8 < (x212001.length : Int) then (if (!(((rd_T88 x211001 x8).f0) == ((rd_T88 x212001 x8).f0)) || (!(((rd_T88 x211001 x8).f1) == ((rd_T88 x212001 x8).f1)))) = true then (some false) else (sF70.l1 k x5 (wrap64 (x8 + 1)) x207000 x208000 x211000 x211001 x212000 x212001)) else (none)) else (none)) else (sF70.l0 k (wrap64 (x5 + 1)) x207000 x208000)
end
def sF70.f (k : Nat) (l0_0 : List (S72)) (l1_0 : List (S72)) : Option (Bool) := if (l0_0.length : Int) = (l1_0.length : Int) then (sF70.l0 k 0 l0_0 l1_0) else (some false)
theorem sF70.mono_l : ∀ k, (∀ y0 y1 y2, LeO (sF70.l0 k y0 y1 y2) (sF70.l0 (k + 1) y0 y1 y2)) ∧ (∀ y0 y1 y2 y3 y4 y5 y6 y7, LeO (sF70.j1 k y0 y1 y2 y3 y4 y5 y6 y7) (sF70.j1 (k + 1) y0 y1 y2 y3 y4 y5 y6 y7)) ∧ (∀ y0 y1 y2 y3 y4 y5 y6 y7, LeO (sF70.l1 k y0 y1 y2 y3 y4 y5 y6 y7) (sF70.l1 (k + 1) y0 y1 y2 y3 y4 y5 y6 y7))
 | 0 => ⟨fun _ _ _ r h => by simp [sF70.l0] at h, fun _ _ _ _ _ _ _ _ r h => by simp [sF70.j1] at h, fun _ _ _ _ _ _ _ _ r h => by simp [sF70.l1] at h⟩
 | k + 1 => by
  obtain ⟨ih0, ih1, ih2⟩ := sF70.mono_l k
  refine ⟨?_, ?_, ?_⟩
  ·
   intro y0 y1 y2
   unfold sF70.l0
   repeat' with_reducible first | exact ih0 _ _ _ | exact ih1 _ _ _ _ _ _ _ _ | exact ih2 _ _ _ _ _ _ _ _ | exact l3_ _ | exact l0_ _ | refine l2_ ?_ ?_ | refine l1_ ?_ (fun _ => ?_)
  ·
   intro y0 y1 y2 y3 y4 y5 y6 y7
   unfold sF70.j1
   repeat' with_reducible first | exact ih0 _ _ _ | exact ih1 _ _ _ _ _ _ _ _ | exact ih2 _ _ _ _ _ _ _ _ | exact l3_ _ | exact l0_ _ | refine l2_ ?_ ?_ | refine l1_ ?_ (fun _ => ?_)
  intro y0 y1 y2 y3 y4 y5 y6 y7
  unfold sF70.l1
  repeat' with_reducible first | exact ih0 _ _ _ | exact ih1 _ _ _ _ _ _ _ _ | exact ih2 _ _ _ _ _ _ _ _ | exact l3_ _ | exact l0_ _ | refine l2_ ?_ ?_ | refine l1_ ?_ (fun _ => ?_)
theorem sF70.mono : ∀ a0 a1 k, LeO (sF70.f k a0 a1) (sF70.f (k + 1) a0 a1) := by
 intro a0 a1 k
 obtain ⟨ih0, ih1, ih2⟩ := sF70.mono_l k
 unfold sF70.f
 repeat' with_reducible first | exact ih0 _ _ _ | exact ih1 _ _ _ _ _ _ _ _ | exact ih2 _ _ _ _ _ _ _ _ | exact l3_ _ | exact l0_ _ | refine l2_ ?_ ?_ | refine l1_ ?_ (fun _ => ?_)
def sF70.T6 : Bool × List (List Nat × List Nat) := (true, [([], []), ([0], [0]), ([], []), ([1, 2], [1, 2]), ([3], [3]), ([], []), ([5], [5]), ([], []), ([6, 7], [6, 7]), ([8], [8]), ([], []), ([], []), ([10, 4, 0, 1, 2, 3, 4, 10, 11], [4, 10]), ([11, 9, 12, 0, 1, 2, 3, 4, 5, 6, 7, 8, 9, 10, 11, 12], [9, 11])])
def sF70.B6 : List Nat := [0, 1, 0, 7, 15, 0, 32, 0, 224, 480, 0, 0, 3103, 8191]
theorem sF70.tab6 : rtab .any (opsOf Tryz.f76 6) = sF70.T6 := by kernel_rfl
theorem sF70.bits6 : waitsOk sF70.T6.2 sF70.B6 = true := by kernel_rfl
def sF70.T12 : Bool × List (List Nat × List Nat) := (true, [([], []), ([0], [0]), ([], []), ([1, 2], [1, 2]), ([3], [3]), ([], []), ([5], [5]), ([], []), ([6, 7], [6, 7]), ([8], [8]), ([4, 9], [4, 9])])
def sF70.B12 : List Nat := [0, 1, 0, 7, 15, 0, 32, 0, 224, 480, 1023]
theorem sF70.tab12 : rtab .any (opsOf Tryz.f76 12) = sF70.T12 := by kernel_rfl
theorem sF70.bits12 : waitsOk sF70.T12.2 sF70.B12 = true := by kernel_rfl
theorem sF70.calls (k : Nat) (A0_0 : Option Addr) (c0_0 : Nat) (l0_0 : List (S72)) (A1_0 : Option Addr) (c1_0 : Nat) (l1_0 : List (S72)) (r : Bool) (w : World) (hr0_0 : Kd.C k72 w A0_0 l0_0.length l0_0) (hc0_0 : l0_0.length ≤ c0_0) (hr1_0 : Kd.C k72 w A1_0 l1_0.length l1_0) (hc1_0 : l1_0.length ≤ c1_0) (h : sF70.f k l0_0 l1_0 = some r) :
  Calls Tryz.prog 76 #[.agg #[.slice A0_0 l0_0.length c0_0], .agg #[.slice A1_0 l1_0.length c1_0]] w fun e w' => e = .returned (.bool r) ∧ Below w.heap.size w w' := by
 have hu33 := Tryz.underlying33
 have hu72 := Tryz.underlying72
 have hu88 := Tryz.underlying88
 have HR0_0 := aM_ hr0_0
 have HC0_0 := aM_ hc0_0
 clear hr0_0 hc0_0
 have HR1_0 := aM_ hr1_0
 have HC1_0 := aM_ hc1_0
 clear hr1_0 hc1_0
 have HB := aM_ (Below.refl w.heap.size w)
 have H : (if (l0_0.length : Int) = (l1_0.length : Int) then (sF70.l0 k 0 l0_0 l1_0) else (some false)) = some r := h
 clear h
 by_cases c3 : (l0_0.length : Int) = (l1_0.length : Int)
 rotate_left
 ·
  rw [if_neg c3] at H
  have c3b0 : ((l0_0.length : Int) == (l1_0.length : Int)) = false := beq_eq_false_iff_ne.mpr c3
  have c3b1 : ((l0_0.length : Int) != (l1_0.length : Int)) = true := bne_iff_ne.mpr c3
  have c3b2 : (l0_0.length == l1_0.length) = false := by first | simpa using c3 | (simp at c3 ⊢; omega)
  obtain rfl := Option.some.inj H
  go_enter Tryz.func76, Tryz.ntmps76
  go_wp2_with (first | ((with_reducible refine gD_ (N := 2) rfl ?_); (try (refine gate_guard (by rfl) ?_; dsimp only)); refine bE_ ?hg (N := 2) ?hd (cs := #[.slice A0_0 l0_0.length c0_0]) (t := 33) ?hr ?_; (case hd => rfl); (case hg => rfl); (case hr => (go_simp; done)); intro gb206 hg w59 hbox hb; have BK206 := aM_ (hbox); have GW206 := gw_ hg HB; replace HB := b4_ HB hb; clear hb hbox hg) | ((with_reducible refine gD_ (N := 3) rfl ?_); (try (refine gate_guard (by rfl) ?_; dsimp only)); refine bE_ ?hg (N := 3) ?hd (cs := #[.slice A1_0 l1_0.length c1_0]) (t := 33) ?hr ?_; (case hd => rfl); (case hg => rfl); (case hr => (go_simp; done)); intro gb207 hg w60 hbox hb; have BK207 := aM_ (hbox); have GW207 := gw_ hg HB; replace HB := b4_ HB hb; have NB206_207 := nb_ hg BK206; have NB207_206 := ns_ NB206_207; replace BK206 := b5_ BK206 hb; clear hb hbox hg; have hnb61 := NB206_207.out; have hnc61 := NB207_206.out; have hcz62_0 := c0_ BK206; have hfz62_0 := bF_ BK206.out 0; have hcz63_0 := c0_ BK207; have hfz63_0 := bF_ BK207.out 0))
  go_ret
  exact ⟨by rfl, by exact HB.out⟩
 rw [if_pos c3] at H
 have c3b0 : ((l0_0.length : Int) == (l1_0.length : Int)) = true := beq_iff_eq.mpr c3
 have c3b1 : ((l0_0.length : Int) != (l1_0.length : Int)) = false := bne_eq_false_iff_eq.mpr c3
 have c3b2 : (l0_0.length == l1_0.length) = true := by first | simpa using c3 | (simp at c3 ⊢; omega)
 clear c3
 have H' := aM_ H
 clear H
 go_enter Tryz.func76, Tryz.ntmps76
 go_wp2_with (first | ((with_reducible refine gD_ (N := 2) rfl ?_); (try (refine gate_guard (by rfl) ?_; dsimp only)); refine bE_ ?hg (N := 2) ?hd (cs := #[.slice A0_0 l0_0.length c0_0]) (t := 33) ?hr ?_; (case hd => rfl); (case hg => rfl); (case hr => (go_simp; done)); intro gb206 hg w4 hbox hb; have BK206 := aM_ (hbox); have GW206 := gw_ hg HB; replace HB := b4_ HB hb; clear hb hbox hg) | ((with_reducible refine gD_ (N := 3) rfl ?_); (try (refine gate_guard (by rfl) ?_; dsimp only)); refine bE_ ?hg (N := 3) ?hd (cs := #[.slice A1_0 l1_0.length c1_0]) (t := 33) ?hr ?_; (case hd => rfl); (case hg => rfl); (case hr => (go_simp; done)); intro gb207 hg w5 hbox hb; have BK207 := aM_ (hbox); have GW207 := gw_ hg HB; replace HB := b4_ HB hb; have NB206_207 := nb_ hg BK206; have NB207_206 := ns_ NB206_207; replace BK206 := b5_ BK206 hb; clear hb hbox hg; have hnb6 := NB206_207.out; have hnc6 := NB207_206.out; have hcz7_0 := c0_ BK206; have hfz7_0 := bF_ BK206.out 0; have hcz8_0 := c0_ BK207; have hfz8_0 := bF_ BK207.out 0))
 go_loopg [5] k (fun kq v5 w' => ∃ (x5_1 : Int), v5 = .int .i64 x5_1 ∧ Aside0 (sF70.l0 kq x5_1 l0_0 l1_0 = some r) ∧ Aside0 (kq ≤ k) ∧ Aside0 (w'.heap[gb206]? = some (.cells #[(.slice A0_0 l0_0.length c0_0)] 33 (0, 0))) ∧ Aside0 (w'.heap[gb207]? = some (.cells #[(.slice A1_0 l1_0.length c1_0)] 33 (0, 0))) ∧ Aside0 (Below w.heap.size w w'))
 case atStart => exact ⟨(0), (by rfl), H', ⟨Nat.le_refl _⟩, ⟨BK206.out⟩, ⟨BK207.out⟩, ⟨HB.out⟩⟩
 clear H'
 try clear p2
 try clear c3b0
 try clear c3b1
 try clear c3b2
 try clear hcz7_0
 try clear hcz8_0
 try clear hfz7_0
 try clear hfz8_0
 obtain ⟨x5_1, rfl, HA, HK1, BK206, BK207, HB⟩ := hrel
 cases gk with
 | zero => exact absurd HA.out (by simp [sF70.l0])
 | succ k1 =>
  have H := HA.out
  clear HA
  simp only [sF70.l0] at H
  by_cases c9 : x5_1 < (l0_0.length : Int)
  rotate_left
  ·
   rw [if_neg c9] at H
   have c9b0 := dF_ c9
   clear c9
   obtain rfl := Option.some.inj H
   have hnb57 := NB206_207.out
   have hnc57 := NB207_206.out
   have hcz58_0 := c0_ BK206
   have hfz58_0 := bF_ BK206.out 0
   go_wp2
   go_ret
   exact ⟨by rfl, by exact HB.out⟩
  rw [if_pos c9] at H
  have c9b0 := dT_ c9
  clear c9
  by_cases c10 : 0 ≤ x5_1
  rotate_left
  ·
   rw [if_neg c10] at H
   exact absurd H (by simp)
  rw [if_pos c10] at H
  have c10b0 := dT_ c10
  clear c10
  by_cases c11 : x5_1 < (l1_0.length : Int)
  rotate_left
  ·
   rw [if_neg c11] at H
   exact absurd H (by simp)
  rw [if_pos c11] at H
  have c11b0 := dT_ c11
  clear c11
  have HC12 := aM_ H
  clear H
  have hnb13 := NB206_207.out
  have hnc13 := NB207_206.out
  have hcz14_0 := c0_ BK206
  have hfz14_0 := bF_ BK206.out 0
  try go_wp2
  have n0_ := aM_ (b1_ BK206.out)
  have n1_ := aM_ (b1_ BK207.out)
  have n2_ := aM_ (bD_ HB.out)
  clear BK206
  clear BK207
  clear HB
  have BK206 := n0_
  have BK207 := n1_
  have HB := n2_
  clear n0_ n1_ n2_
  have p208 : 0 ≤ (x5_1 : Int) := oD_ ‹_›
  have q208 : x5_1 < (l0_0.length : Int) := oD_ ‹_›
  obtain ⟨ad208, A208_1, c208_1, e208, hx208_0, hx208_1, hl208_1, hi208_1⟩ := at_T72 HR0_0.out x5_1 p208 q208
  have hw208_1 := hx208_1
  have hw208_0 := hx208_0
  cases e208
  replace hx208_0 := cb_ HB hx208_0
  replace hx208_1 := cb_ HB hx208_1
  have HR208_1 := aM_ hi208_1
  have HC208_1 := aM_ hl208_1
  clear hi208_1 hl208_1
  replace p208 := eq_true p208
  replace q208 := eq_true q208
  have p209 : 0 ≤ (x5_1 : Int) := oD_ ‹_›
  have q209 : x5_1 < (l1_0.length : Int) := oD_ ‹_›
  obtain ⟨ad209, A209_1, c209_1, e209, hx209_0, hx209_1, hl209_1, hi209_1⟩ := at_T72 HR1_0.out x5_1 p209 q209
  have hw209_1 := hx209_1
  have hw209_0 := hx209_0
  cases e209
  replace hx209_0 := cb_ HB hx209_0
  replace hx209_1 := cb_ HB hx209_1
  have HR209_1 := aM_ hi209_1
  have HC209_1 := aM_ hl209_1
  clear hi209_1 hl209_1
  replace p209 := eq_true p209
  replace q209 := eq_true q209
  refine start_ (n := 14) (S := fun w' => w'.cell? ⟨gb206, 0, none⟩ = some (.slice (some ad208) l0_0.length c0_0) ∧ w'.cell? ⟨gb207, 0, none⟩ = some (.slice (some ad209) l1_0.length c1_0) ∧ w'.cell? (ad208.add ((x5_1).toNat * 2)) = some (.bool ((rd_T72 l0_0 x5_1).f0)) ∧ w'.cell? ⟨(ad208.add ((x5_1).toNat * 2)).block, (ad208.add ((x5_1).toNat * 2)).off + 1, none⟩ = some (.slice A208_1 ((rd_T72 l0_0 x5_1).f1).length c208_1) ∧ w'.cell? (ad209.add ((x5_1).toNat * 2)) = some (.bool ((rd_T72 l1_0 x5_1).f0)) ∧ w'.cell? ⟨(ad209.add ((x5_1).toNat * 2)).block, (ad209.add ((x5_1).toNat * 2)).off + 1, none⟩ = some (.slice A209_1 ((rd_T72 l1_0 x5_1).f1).length c209_1)) (ds := []) #[fy, fy, fy, fy, fy, fy, fy, fy, fy, fy, fy, fy, fy, fy] (by kernel_rfl) rfl rfl ⟨(bC_ BK206.out 0).trans rfl, (bC_ BK207.out 0).trans rfl, (cb_ HB hw208_0), (cb_ HB hw208_1), (cb_ HB hw209_0), (cb_ HB hw209_1)⟩ (fun hHeld => ?_); refine with_tabW sF70.tab6 sF70.bits6 (fun HT_ HW_ => ?_)
  generalize wr.drew = w15 at BK206 BK207 HB HR208_1 HR209_1 hx208_0 hx208_1 hx209_0 hx209_1 hHeld ⊢
  refine pu_ HT_ 0 23 #[ty, fy, fy, fy, fy, fy, fy, fy, fy, fy, fy, fy, fy, fy] ?_
  refine pu_ HT_ 2 25 #[ty, fy, ty, fy, fy, fy, fy, fy, fy, fy, fy, fy, fy, fy] ?_
  refine pu_ HT_ 5 28 #[ty, fy, ty, fy, fy, ty, fy, fy, fy, fy, fy, fy, fy, fy] ?_
  refine pu_ HT_ 7 30 #[ty, fy, ty, fy, fy, ty, fy, ty, fy, fy, fy, fy, fy, fy] ?_
  refine tk_ HT_ HW_ 1 24 #[ty, ty, ty, fy, fy, ty, fy, ty, fy, fy, fy, fy, fy, fy] hHeld ?_ (hr := by rintro w' ⟨s0, s1, s2, s3, s4, s5⟩; go_simp; with_reducible rfl)
  refine pu_ HT_ 3 26 #[ty, ty, ty, ty, fy, ty, fy, ty, fy, fy, fy, fy, fy, fy] ?_
  refine tk_ HT_ HW_ 4 27 #[ty, ty, ty, ty, ty, ty, fy, ty, fy, fy, fy, fy, fy, fy] hHeld ?_ (hr := by rintro w' ⟨s0, s1, s2, s3, s4, s5⟩; go_simp; with_reducible rfl)
  refine tk_ HT_ HW_ 6 29 #[ty, ty, ty, ty, ty, ty, ty, ty, fy, fy, fy, fy, fy, fy] hHeld ?_ (hr := by rintro w' ⟨s0, s1, s2, s3, s4, s5⟩; go_simp; with_reducible rfl)
  refine pu_ HT_ 8 31 #[ty, ty, ty, ty, ty, ty, ty, ty, ty, fy, fy, fy, fy, fy] ?_
  refine tk_ HT_ HW_ 9 32 #[ty, ty, ty, ty, ty, ty, ty, ty, ty, ty, fy, fy, fy, fy] hHeld ?_ (hr := by rintro w' ⟨s0, s1, s2, s3, s4, s5⟩; go_simp; with_reducible rfl)
  refine join_ (σ := Nat × Nat) 2 #[ty, ty, ty, ty, ty, ty, ty, ty, ty, ty, ty, ty, fy, fy] (fun s_ => [(6, .pointer (some ⟨s_.1, 0, none⟩)), (7, .pointer (some ⟨s_.2, 0, none⟩))]) (fun s_ w' => (w'.cell? ⟨gb206, 0, none⟩ = some (.slice (some ad208) l0_0.length c0_0) ∧ w'.cell? ⟨gb207, 0, none⟩ = some (.slice (some ad209) l1_0.length c1_0) ∧ w'.cell? (ad208.add ((x5_1).toNat * 2)) = some (.bool ((rd_T72 l0_0 x5_1).f0)) ∧ w'.cell? ⟨(ad208.add ((x5_1).toNat * 2)).block, (ad208.add ((x5_1).toNat * 2)).off + 1, none⟩ = some (.slice A208_1 ((rd_T72 l0_0 x5_1).f1).length c208_1) ∧ w'.cell? (ad209.add ((x5_1).toNat * 2)) = some (.bool ((rd_T72 l1_0 x5_1).f0)) ∧ w'.cell? ⟨(ad209.add ((x5_1).toNat * 2)).block, (ad209.add ((x5_1).toNat * 2)).off + 1, none⟩ = some (.slice A209_1 ((rd_T72 l1_0 x5_1).f1).length c209_1)) ∧ (w'.heap[gb206]? = some (.cells #[.slice (some ad208) l0_0.length c0_0] 33 (0, 0))) ∧ (w'.heap[gb207]? = some (.cells #[.slice (some ad209) l1_0.length c1_0] 33 (0, 0))) ∧ (w'.heap[s_.1]? = some (.cells #[.bool false, .slice none 0 0] 72 (0, 0))) ∧ (w'.heap[s_.2]? = some (.cells #[.bool false, .slice none 0 0] 72 (0, 0))) ∧ (w.heap.size ≤ s_.1) ∧ (w.heap.size ≤ s_.1) ∧ (gb206 ≠ s_.1) ∧ (s_.1 ≠ gb206) ∧ (gb207 ≠ s_.1) ∧ (s_.1 ≠ gb207) ∧ (s_.2 ≠ s_.1) ∧ (s_.1 ≠ s_.2) ∧ (w.heap.size ≤ s_.2) ∧ (w.heap.size ≤ s_.2) ∧ (gb206 ≠ s_.2) ∧ (s_.2 ≠ gb206) ∧ (gb207 ≠ s_.2) ∧ (s_.2 ≠ gb207) ∧ (Below w.heap.size w w')) ?_ ?_
  rotate_left
  ·
   intro hCont
   refine two_ (i := 10) (j := 11) (Ni := some 6) (Nj := some 7) #[ty, ty, ty, ty, ty, ty, ty, ty, ty, ty, ty, fy, fy, fy] #[ty, ty, ty, ty, ty, ty, ty, ty, ty, ty, fy, ty, fy, fy] rfl rfl rfl rfl (two_of HT_.out (by kernel_rfl)) (by decide) (by decide) (fun K hK => ?_) (fun K hK => ?_)
   ·
    skip
    refine box_step ?hg (N := 6) ?hd (cs := #[.bool false, .slice none 0 0]) (t := 72) ?hr ?_; (case hd => rfl); (case hg => rfl); (case hr => (go_simp; done))
    intro gb210 hg w16 hbox hb
    have n0_ := b5_ BK206 hb
    have n1_ := b5_ BK207 hb
    have n2_ := b4_ HB hb
    have n3_ := aM_ (hbox)
    have n4_ := gw_ hg HB
    have n5_ := gw_ hg HB
    have n6_ := nb_ hg BK206
    have n7_ := aM_ ((by rw [hg]; exact Nat.ne_of_gt (bL_ BK206.out) : gb210 ≠ gb206))
    have n8_ := nb_ hg BK207
    have n9_ := aM_ ((by rw [hg]; exact Nat.ne_of_gt (bL_ BK207.out) : gb210 ≠ gb207))
    clear BK206
    clear BK207
    clear HB
    have BK206 := n0_
    have BK207 := n1_
    have HB := n2_
    have BK210 := n3_
    have GW210 := n4_
    have GW210 := n5_
    have NB206_210 := n6_
    have NB210_206 := n7_
    have NB207_210 := n8_
    have NB210_207 := n9_
    clear n0_ n1_ n2_ n3_ n4_ n5_ n6_ n7_ n8_ n9_
    clear hb hbox hg
    refine hK.out _ _ ⟨(bC_ BK206.out 0).trans rfl, (bC_ BK207.out 0).trans rfl, (cb_ HB hw208_0), (cb_ HB hw208_1), (cb_ HB hw209_0), (cb_ HB hw209_1)⟩ (fun hHeld => ?_)
    clear hK K
    refine norm_ (by show Act.put _ (some 6) _ = _; simp only [Act.put, sA_, sB_, sC_, i6_, i3_]; rfl) ?_
    refine one_ (i := 11) (N := some 7) #[ty, ty, ty, ty, ty, ty, ty, ty, ty, ty, ty, ty, fy, fy] rfl rfl (one_of HT_.out (by kernel_rfl)) (by decide) (fun K hK => ?_)
    refine box_step ?hg (N := 7) ?hd (cs := #[.bool false, .slice none 0 0]) (t := 72) ?hr ?_; (case hd => rfl); (case hg => rfl); (case hr => (go_simp; done))
    intro gb211 hg w17 hbox hb
    have n0_ := b5_ BK206 hb
    have n1_ := b5_ BK207 hb
    have n2_ := b5_ BK210 hb
    have n3_ := b4_ HB hb
    have n4_ := aM_ (hbox)
    have n5_ := gw_ hg HB
    have n6_ := gw_ hg HB
    have n7_ := nb_ hg BK206
    have n8_ := aM_ ((by rw [hg]; exact Nat.ne_of_gt (bL_ BK206.out) : gb211 ≠ gb206))
    have n9_ := nb_ hg BK207
    have n10_ := aM_ ((by rw [hg]; exact Nat.ne_of_gt (bL_ BK207.out) : gb211 ≠ gb207))
    have n11_ := nb_ hg BK210
    have n12_ := aM_ ((by rw [hg]; exact Nat.ne_of_gt (bL_ BK210.out) : gb211 ≠ gb210))
    clear BK206
    clear BK207
    clear BK210
    clear HB
    have BK206 := n0_
    have BK207 := n1_
    have BK210 := n2_
    have HB := n3_
    have BK211 := n4_
    have GW211 := n5_
    have GW211 := n6_
    have NB206_211 := n7_
    have NB211_206 := n8_
    have NB207_211 := n9_
    have NB211_207 := n10_
    have NB210_211 := n11_
    have NB211_210 := n12_
    clear n0_ n1_ n2_ n3_ n4_ n5_ n6_ n7_ n8_ n9_ n10_ n11_ n12_
    clear hb hbox hg
    refine hK.out _ _ ⟨(bC_ BK206.out 0).trans rfl, (bC_ BK207.out 0).trans rfl, (cb_ HB hw208_0), (cb_ HB hw208_1), (cb_ HB hw209_0), (cb_ HB hw209_1)⟩ (fun hHeld => ?_)
    clear hK K
    refine norm_ (by show Act.put _ (some 7) _ = _; simp only [Act.put, sA_, sB_, sC_, i6_, i3_]; rfl) ?_
    exact norm_ (by simp only [putAll, Act.put, sA_, sB_, sC_]) (hCont (gb210, gb211) _ ⟨hHeld, BK206.out, BK207.out, BK210.out, BK211.out, GW210.out, GW210.out, NB206_210.out, NB210_206.out, NB207_210.out, NB210_207.out, NB211_210.out, NB210_211.out, GW211.out, GW211.out, NB206_211.out, NB211_206.out, NB207_211.out, NB211_207.out, HB.out⟩)
   skip
   refine box_step ?hg (N := 7) ?hd (cs := #[.bool false, .slice none 0 0]) (t := 72) ?hr ?_; (case hd => rfl); (case hg => rfl); (case hr => (go_simp; done))
   intro gb211 hg w16 hbox hb
   have n0_ := b5_ BK206 hb
   have n1_ := b5_ BK207 hb
   have n2_ := b4_ HB hb
   have n3_ := aM_ (hbox)
   have n4_ := gw_ hg HB
   have n5_ := gw_ hg HB
   have n6_ := nb_ hg BK206
   have n7_ := aM_ ((by rw [hg]; exact Nat.ne_of_gt (bL_ BK206.out) : gb211 ≠ gb206))
   have n8_ := nb_ hg BK207
   have n9_ := aM_ ((by rw [hg]; exact Nat.ne_of_gt (bL_ BK207.out) : gb211 ≠ gb207))
   clear BK206
   clear BK207
   clear HB
   have BK206 := n0_
   have BK207 := n1_
   have HB := n2_
   have BK211 := n3_
   have GW211 := n4_
   have GW211 := n5_
   have NB206_211 := n6_
   have NB211_206 := n7_
   have NB207_211 := n8_
   have NB211_207 := n9_
   clear n0_ n1_ n2_ n3_ n4_ n5_ n6_ n7_ n8_ n9_
   clear hb hbox hg
   refine hK.out _ _ ⟨(bC_ BK206.out 0).trans rfl, (bC_ BK207.out 0).trans rfl, (cb_ HB hw208_0), (cb_ HB hw208_1), (cb_ HB hw209_0), (cb_ HB hw209_1)⟩ (fun hHeld => ?_)
   clear hK K
   refine norm_ (by show Act.put _ (some 7) _ = _; simp only [Act.put, sA_, sB_, sC_, i6_, i3_]; rfl) ?_
   refine one_ (i := 10) (N := some 6) #[ty, ty, ty, ty, ty, ty, ty, ty, ty, ty, ty, ty, fy, fy] rfl rfl (one_of HT_.out (by kernel_rfl)) (by decide) (fun K hK => ?_)
   refine box_step ?hg (N := 6) ?hd (cs := #[.bool false, .slice none 0 0]) (t := 72) ?hr ?_; (case hd => rfl); (case hg => rfl); (case hr => (go_simp; done))
   intro gb210 hg w17 hbox hb
   have n0_ := b5_ BK206 hb
   have n1_ := b5_ BK207 hb
   have n2_ := b5_ BK211 hb
   have n3_ := b4_ HB hb
   have n4_ := aM_ (hbox)
   have n5_ := gw_ hg HB
   have n6_ := gw_ hg HB
   have n7_ := nb_ hg BK206
   have n8_ := aM_ ((by rw [hg]; exact Nat.ne_of_gt (bL_ BK206.out) : gb210 ≠ gb206))
   have n9_ := nb_ hg BK207
   have n10_ := aM_ ((by rw [hg]; exact Nat.ne_of_gt (bL_ BK207.out) : gb210 ≠ gb207))
   have n11_ := nb_ hg BK211
   have n12_ := aM_ ((by rw [hg]; exact Nat.ne_of_gt (bL_ BK211.out) : gb210 ≠ gb211))
   clear BK206
   clear BK207
   clear BK211
   clear HB
   have BK206 := n0_
   have BK207 := n1_
   have BK211 := n2_
   have HB := n3_
   have BK210 := n4_
   have GW210 := n5_
   have GW210 := n6_
   have NB206_210 := n7_
   have NB210_206 := n8_
   have NB207_210 := n9_
   have NB210_207 := n10_
   have NB211_210 := n11_
   have NB210_211 := n12_
   clear n0_ n1_ n2_ n3_ n4_ n5_ n6_ n7_ n8_ n9_ n10_ n11_ n12_
   clear hb hbox hg
   refine hK.out _ _ ⟨(bC_ BK206.out 0).trans rfl, (bC_ BK207.out 0).trans rfl, (cb_ HB hw208_0), (cb_ HB hw208_1), (cb_ HB hw209_0), (cb_ HB hw209_1)⟩ (fun hHeld => ?_)
   clear hK K
   refine norm_ (by show Act.put _ (some 6) _ = _; simp only [Act.put, sA_, sB_, sC_, i6_, i3_]; rfl) ?_
   exact norm_ (by simp only [putAll, Act.put, sA_, sB_, sC_]) (hCont (gb210, gb211) _ ⟨hHeld, BK206.out, BK207.out, BK210.out, BK211.out, GW210.out, GW210.out, NB206_210.out, NB210_206.out, NB207_210.out, NB210_207.out, NB211_210.out, NB210_211.out, GW211.out, GW211.out, NB206_211.out, NB211_206.out, NB207_211.out, NB211_207.out, HB.out⟩)
  rintro ⟨gb210, gb211⟩ w18 ⟨hS_, h0_, h1_, h2_, h3_, h4_, h5_, h6_, h7_, h8_, h9_, h10_, h11_, h12_, h13_, h14_, h15_, h16_, h17_, h18_⟩
  have n0_ : Aside0 (w18.heap[gb206]? = some (.cells #[.slice (some ad208) l0_0.length c0_0] 33 (0, 0))) := ⟨h0_⟩
  have n1_ : Aside0 (w18.heap[gb207]? = some (.cells #[.slice (some ad209) l1_0.length c1_0] 33 (0, 0))) := ⟨h1_⟩
  have n2_ : Aside0 (w18.heap[gb210]? = some (.cells #[.bool false, .slice none 0 0] 72 (0, 0))) := ⟨h2_⟩
  have n3_ : Aside0 (w18.heap[gb211]? = some (.cells #[.bool false, .slice none 0 0] 72 (0, 0))) := ⟨h3_⟩
  have n4_ : Aside0 (w.heap.size ≤ gb210) := ⟨h4_⟩
  have n5_ : Aside0 (w.heap.size ≤ gb210) := ⟨h5_⟩
  have n6_ : Aside0 (gb206 ≠ gb210) := ⟨h6_⟩
  have n7_ : Aside0 (gb210 ≠ gb206) := ⟨h7_⟩
  have n8_ : Aside0 (gb207 ≠ gb210) := ⟨h8_⟩
  have n9_ : Aside0 (gb210 ≠ gb207) := ⟨h9_⟩
  have n10_ : Aside0 (gb211 ≠ gb210) := ⟨h10_⟩
  have n11_ : Aside0 (gb210 ≠ gb211) := ⟨h11_⟩
  have n12_ : Aside0 (w.heap.size ≤ gb211) := ⟨h12_⟩
  have n13_ : Aside0 (w.heap.size ≤ gb211) := ⟨h13_⟩
  have n14_ : Aside0 (gb206 ≠ gb211) := ⟨h14_⟩
  have n15_ : Aside0 (gb211 ≠ gb206) := ⟨h15_⟩
  have n16_ : Aside0 (gb207 ≠ gb211) := ⟨h16_⟩
  have n17_ : Aside0 (gb211 ≠ gb207) := ⟨h17_⟩
  have n18_ : Aside0 (Below w.heap.size w w18) := ⟨h18_⟩
  clear BK206
  clear BK207
  clear HB
  clear h0_ h1_ h2_ h3_ h4_ h5_ h6_ h7_ h8_ h9_ h10_ h11_ h12_ h13_ h14_ h15_ h16_ h17_ h18_
  have BK206 := n0_
  have BK207 := n1_
  have BK210 := n2_
  have BK211 := n3_
  have GW210 := n4_
  have GW210 := n5_
  have NB206_210 := n6_
  have NB210_206 := n7_
  have NB207_210 := n8_
  have NB210_207 := n9_
  have NB211_210 := n10_
  have NB210_211 := n11_
  have GW211 := n12_
  have GW211 := n13_
  have NB206_211 := n14_
  have NB211_206 := n15_
  have NB207_211 := n16_
  have NB211_207 := n17_
  have HB := n18_
  clear n0_ n1_ n2_ n3_ n4_ n5_ n6_ n7_ n8_ n9_ n10_ n11_ n12_ n13_ n14_ n15_ n16_ n17_ n18_
  have hHeld : w18.cell? ⟨gb206, 0, none⟩ = some (.slice (some ad208) l0_0.length c0_0) ∧ w18.cell? ⟨gb207, 0, none⟩ = some (.slice (some ad209) l1_0.length c1_0) ∧ w18.cell? (ad208.add ((x5_1).toNat * 2)) = some (.bool ((rd_T72 l0_0 x5_1).f0)) ∧ w18.cell? ⟨(ad208.add ((x5_1).toNat * 2)).block, (ad208.add ((x5_1).toNat * 2)).off + 1, none⟩ = some (.slice A208_1 ((rd_T72 l0_0 x5_1).f1).length c208_1) ∧ w18.cell? (ad209.add ((x5_1).toNat * 2)) = some (.bool ((rd_T72 l1_0 x5_1).f0)) ∧ w18.cell? ⟨(ad209.add ((x5_1).toNat * 2)).block, (ad209.add ((x5_1).toNat * 2)).off + 1, none⟩ = some (.slice A209_1 ((rd_T72 l1_0 x5_1).f1).length c209_1) := hS_
  refine norm_ (a' := ?_) ?_ ?_
  rotate_left
  ·
   simp only [putAll, Act.put, sA_, sB_, sC_]
   rfl
  refine one_ (i := 12) (N := none) #[ty, ty, ty, ty, ty, ty, ty, ty, ty, ty, ty, ty, ty, fy] rfl rfl (one_of HT_.out (by kernel_rfl)) (by decide) (fun K hK => ?_)
  have hs19 : w18.cell? ⟨gb210, 0, none⟩ = some (.bool false) := (bC_ BK210.out 0).trans rfl
  have hfs19 := bF_ BK210.out 0
  have hns19_0 := NB206_210.out
  have hns19_1 := NB207_210.out
  have hns19_3 := NB211_210.out
  have hms19_0 := NB210_206.out
  have hms19_1 := NB210_207.out
  have hms19_3 := NB210_211.out
  have hs20 : w18.cell? ⟨gb210, 1, none⟩ = some (.slice none 0 0) := (bC_ BK210.out 1).trans rfl
  have hfs20 := bF_ BK210.out 1
  have hns20_0 := NB206_210.out
  have hns20_1 := NB207_210.out
  have hns20_3 := NB211_210.out
  have hms20_0 := NB210_206.out
  have hms20_1 := NB210_207.out
  have hms20_3 := NB210_211.out
  refine skip_ (w1 := ?_) (by rfl) rfl ?_ ?_
  rotate_left
  ·
   go_simp
   rfl
  refine hK.out _ _ ⟨((cF_ (p := ⟨gb210, _, none⟩) NB206_210.out _).trans (((cF_ (p := ⟨gb210, _, none⟩) NB206_210.out _).trans (hHeld.1)))), ((cF_ (p := ⟨gb210, _, none⟩) NB207_210.out _).trans (((cF_ (p := ⟨gb210, _, none⟩) NB207_210.out _).trans (hHeld.2.1)))), ((cF_ (p := ⟨gb210, _, none⟩) (by exact Nat.ne_of_lt (Nat.lt_of_lt_of_le (by have := wB_ _ _ hw208_0; exact this) GW210.out)) _).trans (((cF_ (p := ⟨gb210, _, none⟩) (by exact Nat.ne_of_lt (Nat.lt_of_lt_of_le (by have := wB_ _ _ hw208_0; exact this) GW210.out)) _).trans (hHeld.2.2.1)))), ((cF_ (p := ⟨gb210, _, none⟩) (by exact Nat.ne_of_lt (Nat.lt_of_lt_of_le (by have := wB_ _ _ hw208_1; exact this) GW210.out)) _).trans (((cF_ (p := ⟨gb210, _, none⟩) (by exact Nat.ne_of_lt (Nat.lt_of_lt_of_le (by have := wB_ _ _ hw208_1; exact this) GW210.out)) _).trans (hHeld.2.2.2.1)))), ((cF_ (p := ⟨gb210, _, none⟩) (by exact Nat.ne_of_lt (Nat.lt_of_lt_of_le (by have := wB_ _ _ hw209_0; exact this) GW210.out)) _).trans (((cF_ (p := ⟨gb210, _, none⟩) (by exact Nat.ne_of_lt (Nat.lt_of_lt_of_le (by have := wB_ _ _ hw209_0; exact this) GW210.out)) _).trans (hHeld.2.2.2.2.1)))), ((cF_ (p := ⟨gb210, _, none⟩) (by exact Nat.ne_of_lt (Nat.lt_of_lt_of_le (by have := wB_ _ _ hw209_1; exact this) GW210.out)) _).trans (((cF_ (p := ⟨gb210, _, none⟩) (by exact Nat.ne_of_lt (Nat.lt_of_lt_of_le (by have := wB_ _ _ hw209_1; exact this) GW210.out)) _).trans (hHeld.2.2.2.2.2))))⟩ (fun hHeld => ?_)
  clear hK K
  refine one_ (i := 13) (N := none) #[ty, ty, ty, ty, ty, ty, ty, ty, ty, ty, ty, ty, ty, ty] rfl rfl (one_of HT_.out (by kernel_rfl)) (by decide) (fun K hK => ?_)
  have hs21 : w18.cell? ⟨gb211, 0, none⟩ = some (.bool false) := (bC_ BK211.out 0).trans rfl
  have hfs21 := bF_ BK211.out 0
  have hns21_0 := NB206_211.out
  have hns21_1 := NB207_211.out
  have hns21_2 := NB210_211.out
  have hms21_0 := NB211_206.out
  have hms21_1 := NB211_207.out
  have hms21_2 := NB211_210.out
  have hs22 : w18.cell? ⟨gb211, 1, none⟩ = some (.slice none 0 0) := (bC_ BK211.out 1).trans rfl
  have hfs22 := bF_ BK211.out 1
  have hns22_0 := NB206_211.out
  have hns22_1 := NB207_211.out
  have hns22_2 := NB210_211.out
  have hms22_0 := NB211_206.out
  have hms22_1 := NB211_207.out
  have hms22_2 := NB211_210.out
  refine skip_ (w1 := ?_) (by rfl) rfl ?_ ?_
  rotate_left
  ·
   go_simp
   rfl
  refine hK.out _ _ ⟨((cF_ (p := ⟨gb211, _, none⟩) NB206_211.out _).trans (((cF_ (p := ⟨gb211, _, none⟩) NB206_211.out _).trans (hHeld.1)))), ((cF_ (p := ⟨gb211, _, none⟩) NB207_211.out _).trans (((cF_ (p := ⟨gb211, _, none⟩) NB207_211.out _).trans (hHeld.2.1)))), ((cF_ (p := ⟨gb211, _, none⟩) (by exact Nat.ne_of_lt (Nat.lt_of_lt_of_le (by have := wB_ _ _ hw208_0; exact this) GW211.out)) _).trans (((cF_ (p := ⟨gb211, _, none⟩) (by exact Nat.ne_of_lt (Nat.lt_of_lt_of_le (by have := wB_ _ _ hw208_0; exact this) GW211.out)) _).trans (hHeld.2.2.1)))), ((cF_ (p := ⟨gb211, _, none⟩) (by exact Nat.ne_of_lt (Nat.lt_of_lt_of_le (by have := wB_ _ _ hw208_1; exact this) GW211.out)) _).trans (((cF_ (p := ⟨gb211, _, none⟩) (by exact Nat.ne_of_lt (Nat.lt_of_lt_of_le (by have := wB_ _ _ hw208_1; exact this) GW211.out)) _).trans (hHeld.2.2.2.1)))), ((cF_ (p := ⟨gb211, _, none⟩) (by exact Nat.ne_of_lt (Nat.lt_of_lt_of_le (by have := wB_ _ _ hw209_0; exact this) GW211.out)) _).trans (((cF_ (p := ⟨gb211, _, none⟩) (by exact Nat.ne_of_lt (Nat.lt_of_lt_of_le (by have := wB_ _ _ hw209_0; exact this) GW211.out)) _).trans (hHeld.2.2.2.2.1)))), ((cF_ (p := ⟨gb211, _, none⟩) (by exact Nat.ne_of_lt (Nat.lt_of_lt_of_le (by have := wB_ _ _ hw209_1; exact this) GW211.out)) _).trans (((cF_ (p := ⟨gb211, _, none⟩) (by exact Nat.ne_of_lt (Nat.lt_of_lt_of_le (by have := wB_ _ _ hw209_1; exact this) GW211.out)) _).trans (hHeld.2.2.2.2.2))))⟩ (fun hHeld => ?_)
  clear hK K
  refine done_ (done_of HT_.out (by kernel_rfl)) ?_
  go_upto_region 7 with (fail)
  go_cut [46] (fun v46 wc => ∃ (kq : Nat) (x46_11 : Bool), v46 = .bool x46_11 ∧ Aside0 (sF70.j1 kq x5_1 x46_11 l0_0 l1_0 ((rd_T72 l0_0 x5_1).f0) ((rd_T72 l0_0 x5_1).f1) ((rd_T72 l1_0 x5_1).f0) ((rd_T72 l1_0 x5_1).f1) = some r) ∧ Aside0 (kq ≤ k1) ∧ Aside0 (wc.heap[gb206]? = some (.cells #[(.slice (some ad208) l0_0.length c0_0)] 33 (0, 0))) ∧ Aside0 (wc.heap[gb207]? = some (.cells #[(.slice (some ad209) l1_0.length c1_0)] 33 (0, 0))) ∧ Aside0 (wc.heap[gb210]? = some (.cells #[.bool ((rd_T72 l0_0 x5_1).f0), (.slice A208_1 ((rd_T72 l0_0 x5_1).f1).length c208_1)] 72 (0, 0))) ∧ Aside0 (wc.heap[gb211]? = some (.cells #[.bool ((rd_T72 l1_0 x5_1).f0), (.slice A209_1 ((rd_T72 l1_0 x5_1).f1).length c209_1)] 72 (0, 0))) ∧ Aside0 (Below w.heap.size w wc))
  case first =>
   have H := HC12.out
   clear HC12
   by_cases c23 : (((rd_T72 l0_0 x5_1).f0) != ((rd_T72 l1_0 x5_1).f0)) = true
   ·
    rw [if_pos c23] at H
    have c23b0 : (((rd_T72 l0_0 x5_1).f0) != ((rd_T72 l1_0 x5_1).f0)) = true := c23
    (try (have c23b1 : decide (((rd_T72 l0_0 x5_1).f0) = ((rd_T72 l1_0 x5_1).f0)) = false := by simpa using c23))
    (try (have c23b2 : (((rd_T72 l0_0 x5_1).f0) == ((rd_T72 l1_0 x5_1).f0)) = false := by simpa using c23))
    (try (have c23b3 : ¬ (((rd_T72 l0_0 x5_1).f0) = ((rd_T72 l1_0 x5_1).f0)) := by simpa using c23))
    clear c23
    (skip)
    have H' := aM_ H
    clear H
    have hnb24 := NB210_206.out
    have hnc24 := NB206_210.out
    have hnb25 := NB210_207.out
    have hnc25 := NB207_210.out
    have hnb26 := NB210_211.out
    have hnc26 := NB211_210.out
    have hcz27_0 := c0_ BK210
    have hcz27_1 := c1_ BK210
    have hfz27_0 := bF_ BK210.out 0
    have hfz27_1 := bF_ BK210.out 1
    have hnb28 := NB211_206.out
    have hnc28 := NB206_211.out
    have hnb29 := NB211_207.out
    have hnc29 := NB207_211.out
    have hcz30_0 := c0_ BK211
    have hcz30_1 := c1_ BK211
    have hfz30_0 := bF_ BK211.out 0
    have hfz30_1 := bF_ BK211.out 1
    go_wp2
    go_meet
    case rel => exact ⟨_, (true), (by rfl), H', ⟨by have := HK1.out; omega⟩, ⟨by exact br_ NB206_211.out (br_ NB206_211.out (br_ NB206_210.out (br_ NB206_210.out (BK206.out))))⟩, ⟨by exact br_ NB207_211.out (br_ NB207_211.out (br_ NB207_210.out (br_ NB207_210.out (BK207.out))))⟩, ⟨by refine bR_ ?_ NB210_211.out _; refine bR_ ?_ NB210_211.out _; refine bP_ (cs := #[.bool ((rd_T72 l0_0 x5_1).f0), .slice none 0 0]) ?_ 1 _ rfl; refine bP_ (cs := #[.bool false, .slice none 0 0]) ?_ 0 _ rfl; exact BK210.out⟩, ⟨by refine bP_ (cs := #[.bool ((rd_T72 l1_0 x5_1).f0), .slice none 0 0]) ?_ 1 _ rfl; refine bP_ (cs := #[.bool false, .slice none 0 0]) ?_ 0 _ rfl; exact br_ NB211_210.out (br_ NB211_210.out (BK211.out))⟩, ⟨by repeat with_reducible first | exact HB.out | apply bA_ | apply bN_ | apply bD_ | refine bS_ ?_ (Aside0.out ‹_›)⟩⟩
   rw [if_neg c23] at H
   have c23b0 : (((rd_T72 l0_0 x5_1).f0) != ((rd_T72 l1_0 x5_1).f0)) = false := by simpa using c23
   (try (have c23b1 : decide (((rd_T72 l0_0 x5_1).f0) = ((rd_T72 l1_0 x5_1).f0)) = true := by simpa using c23))
   (try (have c23b2 : (((rd_T72 l0_0 x5_1).f0) == ((rd_T72 l1_0 x5_1).f0)) = true := by simpa using c23))
   clear c23
   (skip)
   have H' := aM_ H
   clear H
   have hnb31 := NB210_206.out
   have hnc31 := NB206_210.out
   have hnb32 := NB210_207.out
   have hnc32 := NB207_210.out
   have hnb33 := NB210_211.out
   have hnc33 := NB211_210.out
   have hcz34_0 := c0_ BK210
   have hcz34_1 := c1_ BK210
   have hfz34_0 := bF_ BK210.out 0
   have hfz34_1 := bF_ BK210.out 1
   have hnb35 := NB211_206.out
   have hnc35 := NB206_211.out
   have hnb36 := NB211_207.out
   have hnc36 := NB207_211.out
   have hcz37_0 := c0_ BK211
   have hcz37_1 := c1_ BK211
   have hfz37_0 := bF_ BK211.out 0
   have hfz37_1 := bF_ BK211.out 1
   go_wp2
   go_meet
   case rel => exact ⟨_, (((((rd_T72 l0_0 x5_1).f1).length : Int) != (((rd_T72 l1_0 x5_1).f1).length : Int))), (by rfl), H', ⟨by have := HK1.out; omega⟩, ⟨by exact br_ NB206_211.out (br_ NB206_211.out (br_ NB206_210.out (br_ NB206_210.out (BK206.out))))⟩, ⟨by exact br_ NB207_211.out (br_ NB207_211.out (br_ NB207_210.out (br_ NB207_210.out (BK207.out))))⟩, ⟨by refine bR_ ?_ NB210_211.out _; refine bR_ ?_ NB210_211.out _; refine bP_ (cs := #[.bool ((rd_T72 l0_0 x5_1).f0), .slice none 0 0]) ?_ 1 _ rfl; refine bP_ (cs := #[.bool false, .slice none 0 0]) ?_ 0 _ rfl; exact BK210.out⟩, ⟨by refine bP_ (cs := #[.bool ((rd_T72 l1_0 x5_1).f0), .slice none 0 0]) ?_ 1 _ rfl; refine bP_ (cs := #[.bool false, .slice none 0 0]) ?_ 0 _ rfl; exact br_ NB211_210.out (br_ NB211_210.out (BK211.out))⟩, ⟨by repeat with_reducible first | exact HB.out | apply bA_ | apply bN_ | apply bD_ | refine bS_ ?_ (Aside0.out ‹_›)⟩⟩
  clear HC12
  try clear p2
  try clear q2
  try clear hx2
  try clear c3b0
  try clear c3b1
  try clear c3b2
  try clear c9b0
  try clear c10b0
  try clear c11b0
  try clear p20
  try clear q20
  try clear hx20
  try clear c23b0
  try clear c23b1
  try clear c23b2
  try clear hcz14_0
  try clear hcz27_0
  try clear hcz27_1
  try clear hcz30_0
  try clear hcz30_1
  try clear hcz34_0
  try clear hcz34_1
  try clear hcz37_0
  try clear hcz37_1
  try clear hcz7_0
  try clear hcz8_0
  try clear hfz14_0
  try clear hfz27_0
  try clear hfz27_1
  try clear hfz30_0
  try clear hfz30_1
  try clear hfz34_0
  try clear hfz34_1
  try clear hfz37_0
  try clear hfz37_1
  try clear hfz7_0
  try clear hfz8_0
  try clear hx208_0
  try clear hx208_1
  try clear hx209_0
  try clear hx209_1
  try clear p2
  try clear p208
  try clear p209
  try clear q208
  try clear q209
  obtain ⟨kq, x46_11, rfl, HA, HJ11, BK206, BK207, BK210, BK211, HB⟩ := hcut
  cases kq with
  | zero => exact absurd HA.out (by simp [sF70.j1])
  | succ kj11 =>
   have H := HA.out
   clear HA
   simp only [sF70.j1] at H
   by_cases c38 : x46_11 = true
   ·
    subst c38
    rw [if_pos rfl] at H
    obtain rfl := Option.some.inj H
    go_wp2
    go_ret
    exact ⟨by rfl, by exact HB.out⟩
   replace c38 := Bool.eq_false_iff.mpr c38
   subst c38
   replace H : (sF70.l1 kj11 x5_1 0 l0_0 l1_0 ((rd_T72 l0_0 x5_1).f0) ((rd_T72 l0_0 x5_1).f1) ((rd_T72 l1_0 x5_1).f0) ((rd_T72 l1_0 x5_1).f1)) = some r := by rw [if_neg (show ¬ (false = true) by decide)] at H; exact H
   have H' := aM_ H
   clear H
   go_wp2
   go_loopg [8] kj11 (fun kq v8 w' => ∃ (x8_3 : Int), v8 = .int .i64 x8_3 ∧ Aside0 (sF70.l1 kq x5_1 x8_3 l0_0 l1_0 ((rd_T72 l0_0 x5_1).f0) ((rd_T72 l0_0 x5_1).f1) ((rd_T72 l1_0 x5_1).f0) ((rd_T72 l1_0 x5_1).f1) = some r) ∧ Aside0 (kq ≤ kj11) ∧ Aside0 (w'.heap[gb206]? = some (.cells #[(.slice (some ad208) l0_0.length c0_0)] 33 (0, 0))) ∧ Aside0 (w'.heap[gb207]? = some (.cells #[(.slice (some ad209) l1_0.length c1_0)] 33 (0, 0))) ∧ Aside0 (w'.heap[gb210]? = some (.cells #[.bool ((rd_T72 l0_0 x5_1).f0), (.slice A208_1 ((rd_T72 l0_0 x5_1).f1).length c208_1)] 72 (0, 0))) ∧ Aside0 (w'.heap[gb211]? = some (.cells #[.bool ((rd_T72 l1_0 x5_1).f0), (.slice A209_1 ((rd_T72 l1_0 x5_1).f1).length c209_1)] 72 (0, 0))) ∧ Aside0 (Below w.heap.size w w'))
   case atStart => exact ⟨(0), (by rfl), H', ⟨Nat.le_refl _⟩, ⟨BK206.out⟩, ⟨BK207.out⟩, ⟨BK210.out⟩, ⟨BK211.out⟩, ⟨HB.out⟩⟩
   clear H'
   try clear p2
   try clear q2
   try clear hx2
   try clear c3b0
   try clear c3b1
   try clear c3b2
   try clear c9b0
   try clear c10b0
   try clear c11b0
   try clear p20
   try clear q20
   try clear hx20
   try clear c23b0
   try clear c23b1
   try clear c23b2
   try clear hcz14_0
   try clear hcz27_0
   try clear hcz27_1
   try clear hcz30_0
   try clear hcz30_1
   try clear hcz34_0
   try clear hcz34_1
   try clear hcz37_0
   try clear hcz37_1
   try clear hcz7_0
   try clear hcz8_0
   try clear hfz14_0
   try clear hfz27_0
   try clear hfz27_1
   try clear hfz30_0
   try clear hfz30_1
   try clear hfz34_0
   try clear hfz34_1
   try clear hfz37_0
   try clear hfz37_1
   try clear hfz7_0
   try clear hfz8_0
   try clear hx208_0
   try clear hx208_1
   try clear hx209_0
   try clear hx209_1
   try clear p2
   try clear p20
   try clear p208
   try clear p209
   try clear q2
   try clear q20
   try clear q208
   try clear q209
   obtain ⟨x8_3, rfl, HA, HK3, BK206, BK207, BK210, BK211, HB⟩ := hrel
   cases gk with
   | zero => exact absurd HA.out (by simp [sF70.l1])
   | succ k3 =>
    have H := HA.out
    clear HA
    simp only [sF70.l1] at H
    by_cases c39 : x8_3 < (((rd_T72 l0_0 x5_1).f1).length : Int)
    rotate_left
    ·
     rw [if_neg c39] at H
     have c39b0 := dF_ c39
     clear c39
     have H' := aM_ H
     clear H
     have hnb53 := NB210_206.out
     have hnc53 := NB206_210.out
     have hnb54 := NB210_207.out
     have hnc54 := NB207_210.out
     have hnb55 := NB210_211.out
     have hnc55 := NB211_210.out
     have hcz56_0 := c0_ BK210
     have hcz56_1 := c1_ BK210
     have hfz56_0 := bF_ BK210.out 0
     have hfz56_1 := bF_ BK210.out 1
     go_wp2
     go_roundg k3
     case measure => have := HK1.out; have := HJ11.out; have := HK3.out; omega
     case rel => exact ⟨(wrap64 (x5_1 + 1)), (by rfl), H', ⟨by have := HK1.out; have := HJ11.out; have := HK3.out; omega⟩, ⟨BK206.out⟩, ⟨BK207.out⟩, ⟨HB.out⟩⟩
    rw [if_pos c39] at H
    have c39b0 := dT_ c39
    clear c39
    by_cases c40 : 0 ≤ x8_3
    rotate_left
    ·
     rw [if_neg c40] at H
     exact absurd H (by simp)
    rw [if_pos c40] at H
    have c40b0 := dT_ c40
    clear c40
    by_cases c41 : x8_3 < (((rd_T72 l1_0 x5_1).f1).length : Int)
    rotate_left
    ·
     rw [if_neg c41] at H
     exact absurd H (by simp)
    rw [if_pos c41] at H
    have c41b0 := dT_ c41
    clear c41
    by_cases c42 : (!(((rd_T88 ((rd_T72 l0_0 x5_1).f1) x8_3).f0) == ((rd_T88 ((rd_T72 l1_0 x5_1).f1) x8_3).f0)) || (!(((rd_T88 ((rd_T72 l0_0 x5_1).f1) x8_3).f1) == ((rd_T88 ((rd_T72 l1_0 x5_1).f1) x8_3).f1)))) = true
    ·
     rw [if_pos c42] at H
     have c42b0 : (!(((rd_T88 ((rd_T72 l0_0 x5_1).f1) x8_3).f0) == ((rd_T88 ((rd_T72 l1_0 x5_1).f1) x8_3).f0)) || (!(((rd_T88 ((rd_T72 l0_0 x5_1).f1) x8_3).f1) == ((rd_T88 ((rd_T72 l1_0 x5_1).f1) x8_3).f1)))) = true := c42
     clear c42
     obtain rfl := Option.some.inj H
     have hnb43 := NB210_206.out
     have hnc43 := NB206_210.out
     have hnb44 := NB210_207.out
     have hnc44 := NB207_210.out
     have hnb45 := NB210_211.out
     have hnc45 := NB211_210.out
     have hcz46_0 := c0_ BK210
     have hcz46_1 := c1_ BK210
     have hfz46_0 := bF_ BK210.out 0
     have hfz46_1 := bF_ BK210.out 1
     try go_wp2
     have n0_ := aM_ (b1_ BK206.out)
     have n1_ := aM_ (b1_ BK207.out)
     have n2_ := aM_ (b1_ BK210.out)
     have n3_ := aM_ (b1_ BK211.out)
     have n4_ := aM_ (bD_ HB.out)
     clear BK206
     clear BK207
     clear BK210
     clear BK211
     clear HB
     have BK206 := n0_
     have BK207 := n1_
     have BK210 := n2_
     have BK211 := n3_
     have HB := n4_
     clear n0_ n1_ n2_ n3_ n4_
     have p212 : 0 ≤ (x8_3 : Int) := oD_ ‹_›
     have q212 : x8_3 < (((rd_T72 l0_0 x5_1).f1).length : Int) := oD_ ‹_›
     obtain ⟨ad212, e212, hx212_0, hx212_1⟩ := at_T88 HR208_1.out x8_3 p212 q212
     have hw212_1 := hx212_1
     have hw212_0 := hx212_0
     cases e212
     replace hx212_0 := cb_ HB hx212_0
     replace hx212_1 := cb_ HB hx212_1
     replace p212 := eq_true p212
     replace q212 := eq_true q212
     have p213 : 0 ≤ (x8_3 : Int) := oD_ ‹_›
     have q213 : x8_3 < (((rd_T72 l1_0 x5_1).f1).length : Int) := oD_ ‹_›
     obtain ⟨ad213, e213, hx213_0, hx213_1⟩ := at_T88 HR209_1.out x8_3 p213 q213
     have hw213_1 := hx213_1
     have hw213_0 := hx213_0
     cases e213
     replace hx213_0 := cb_ HB hx213_0
     replace hx213_1 := cb_ HB hx213_1
     replace p213 := eq_true p213
     replace q213 := eq_true q213
     refine start_ (n := 11) (S := fun w' => w'.cell? ⟨gb210, 0, none⟩ = some (.bool ((rd_T72 l0_0 x5_1).f0)) ∧ w'.cell? ⟨gb210, 1, none⟩ = some (.slice (some ad212) ((rd_T72 l0_0 x5_1).f1).length c208_1) ∧ w'.cell? ⟨gb211, 0, none⟩ = some (.bool ((rd_T72 l1_0 x5_1).f0)) ∧ w'.cell? ⟨gb211, 1, none⟩ = some (.slice (some ad213) ((rd_T72 l1_0 x5_1).f1).length c209_1) ∧ w'.cell? (ad212.add ((x8_3).toNat * 2)) = some (.int .i64 ((rd_T88 ((rd_T72 l0_0 x5_1).f1) x8_3).f0)) ∧ w'.cell? ⟨(ad212.add ((x8_3).toNat * 2)).block, (ad212.add ((x8_3).toNat * 2)).off + 1, none⟩ = some (.int .i64 ((rd_T88 ((rd_T72 l0_0 x5_1).f1) x8_3).f1)) ∧ w'.cell? (ad213.add ((x8_3).toNat * 2)) = some (.int .i64 ((rd_T88 ((rd_T72 l1_0 x5_1).f1) x8_3).f0)) ∧ w'.cell? ⟨(ad213.add ((x8_3).toNat * 2)).block, (ad213.add ((x8_3).toNat * 2)).off + 1, none⟩ = some (.int .i64 ((rd_T88 ((rd_T72 l1_0 x5_1).f1) x8_3).f1))) (ds := []) #[fy, fy, fy, fy, fy, fy, fy, fy, fy, fy, fy] (by kernel_rfl) rfl rfl ⟨(bC_ BK210.out 0).trans rfl, (bC_ BK210.out 1).trans rfl, (bC_ BK211.out 0).trans rfl, (bC_ BK211.out 1).trans rfl, (cb_ HB hw212_0), (cb_ HB hw212_1), (cb_ HB hw213_0), (cb_ HB hw213_1)⟩ (fun hHeld => ?_); refine with_tabW sF70.tab12 sF70.bits12 (fun HT_ HW_ => ?_)
     generalize wr.drew = w47 at BK206 BK207 BK210 BK211 HB hx212_0 hx212_1 hx213_0 hx213_1 hHeld ⊢
     refine pu_ HT_ 0 54 #[ty, fy, fy, fy, fy, fy, fy, fy, fy, fy, fy] ?_
     refine pu_ HT_ 2 56 #[ty, fy, ty, fy, fy, fy, fy, fy, fy, fy, fy] ?_
     refine pu_ HT_ 5 59 #[ty, fy, ty, fy, fy, ty, fy, fy, fy, fy, fy] ?_
     refine pu_ HT_ 7 61 #[ty, fy, ty, fy, fy, ty, fy, ty, fy, fy, fy] ?_
     refine tk_ HT_ HW_ 1 55 #[ty, ty, ty, fy, fy, ty, fy, ty, fy, fy, fy] hHeld ?_ (hr := by rintro w' ⟨s0, s1, s2, s3, s4, s5, s6, s7⟩; go_simp; with_reducible rfl)
     refine pu_ HT_ 3 57 #[ty, ty, ty, ty, fy, ty, fy, ty, fy, fy, fy] ?_
     refine tk_ HT_ HW_ 4 58 #[ty, ty, ty, ty, ty, ty, fy, ty, fy, fy, fy] hHeld ?_ (hr := by rintro w' ⟨s0, s1, s2, s3, s4, s5, s6, s7⟩; go_simp; with_reducible rfl)
     refine tk_ HT_ HW_ 6 60 #[ty, ty, ty, ty, ty, ty, ty, ty, fy, fy, fy] hHeld ?_ (hr := by rintro w' ⟨s0, s1, s2, s3, s4, s5, s6, s7⟩; go_simp; with_reducible rfl)
     refine pu_ HT_ 8 62 #[ty, ty, ty, ty, ty, ty, ty, ty, ty, fy, fy] ?_
     refine tk_ HT_ HW_ 9 63 #[ty, ty, ty, ty, ty, ty, ty, ty, ty, ty, fy] hHeld ?_ (hr := by rintro w' ⟨s0, s1, s2, s3, s4, s5, s6, s7⟩; go_simp; with_reducible rfl)
     refine pu_ HT_ 10 64 #[ty, ty, ty, ty, ty, ty, ty, ty, ty, ty, ty] ?_
     refine done_ (done_of HT_.out (by kernel_rfl)) ?_
     try go_wp2
     go_ret
     exact ⟨by rfl, by exact HB.out⟩
    rw [if_neg c42] at H
    have c42b0 : (!(((rd_T88 ((rd_T72 l0_0 x5_1).f1) x8_3).f0) == ((rd_T88 ((rd_T72 l1_0 x5_1).f1) x8_3).f0)) || (!(((rd_T88 ((rd_T72 l0_0 x5_1).f1) x8_3).f1) == ((rd_T88 ((rd_T72 l1_0 x5_1).f1) x8_3).f1)))) = false := by simpa using c42
    clear c42
    have H' := aM_ H
    clear H
    have hnb48 := NB210_206.out
    have hnc48 := NB206_210.out
    have hnb49 := NB210_207.out
    have hnc49 := NB207_210.out
    have hnb50 := NB210_211.out
    have hnc50 := NB211_210.out
    have hcz51_0 := c0_ BK210
    have hcz51_1 := c1_ BK210
    have hfz51_0 := bF_ BK210.out 0
    have hfz51_1 := bF_ BK210.out 1
    try go_wp2
    have n0_ := aM_ (b1_ BK206.out)
    have n1_ := aM_ (b1_ BK207.out)
    have n2_ := aM_ (b1_ BK210.out)
    have n3_ := aM_ (b1_ BK211.out)
    have n4_ := aM_ (bD_ HB.out)
    clear BK206
    clear BK207
    clear BK210
    clear BK211
    clear HB
    have BK206 := n0_
    have BK207 := n1_
    have BK210 := n2_
    have BK211 := n3_
    have HB := n4_
    clear n0_ n1_ n2_ n3_ n4_
    have p212 : 0 ≤ (x8_3 : Int) := oD_ ‹_›
    have q212 : x8_3 < (((rd_T72 l0_0 x5_1).f1).length : Int) := oD_ ‹_›
    obtain ⟨ad212, e212, hx212_0, hx212_1⟩ := at_T88 HR208_1.out x8_3 p212 q212
    have hw212_1 := hx212_1
    have hw212_0 := hx212_0
    cases e212
    replace hx212_0 := cb_ HB hx212_0
    replace hx212_1 := cb_ HB hx212_1
    replace p212 := eq_true p212
    replace q212 := eq_true q212
    have p213 : 0 ≤ (x8_3 : Int) := oD_ ‹_›
    have q213 : x8_3 < (((rd_T72 l1_0 x5_1).f1).length : Int) := oD_ ‹_›
    obtain ⟨ad213, e213, hx213_0, hx213_1⟩ := at_T88 HR209_1.out x8_3 p213 q213
    have hw213_1 := hx213_1
    have hw213_0 := hx213_0
    cases e213
    replace hx213_0 := cb_ HB hx213_0
    replace hx213_1 := cb_ HB hx213_1
    replace p213 := eq_true p213
    replace q213 := eq_true q213
    refine start_ (n := 11) (S := fun w' => w'.cell? ⟨gb210, 0, none⟩ = some (.bool ((rd_T72 l0_0 x5_1).f0)) ∧ w'.cell? ⟨gb210, 1, none⟩ = some (.slice (some ad212) ((rd_T72 l0_0 x5_1).f1).length c208_1) ∧ w'.cell? ⟨gb211, 0, none⟩ = some (.bool ((rd_T72 l1_0 x5_1).f0)) ∧ w'.cell? ⟨gb211, 1, none⟩ = some (.slice (some ad213) ((rd_T72 l1_0 x5_1).f1).length c209_1) ∧ w'.cell? (ad212.add ((x8_3).toNat * 2)) = some (.int .i64 ((rd_T88 ((rd_T72 l0_0 x5_1).f1) x8_3).f0)) ∧ w'.cell? ⟨(ad212.add ((x8_3).toNat * 2)).block, (ad212.add ((x8_3).toNat * 2)).off + 1, none⟩ = some (.int .i64 ((rd_T88 ((rd_T72 l0_0 x5_1).f1) x8_3).f1)) ∧ w'.cell? (ad213.add ((x8_3).toNat * 2)) = some (.int .i64 ((rd_T88 ((rd_T72 l1_0 x5_1).f1) x8_3).f0)) ∧ w'.cell? ⟨(ad213.add ((x8_3).toNat * 2)).block, (ad213.add ((x8_3).toNat * 2)).off + 1, none⟩ = some (.int .i64 ((rd_T88 ((rd_T72 l1_0 x5_1).f1) x8_3).f1))) (ds := []) #[fy, fy, fy, fy, fy, fy, fy, fy, fy, fy, fy] (by kernel_rfl) rfl rfl ⟨(bC_ BK210.out 0).trans rfl, (bC_ BK210.out 1).trans rfl, (bC_ BK211.out 0).trans rfl, (bC_ BK211.out 1).trans rfl, (cb_ HB hw212_0), (cb_ HB hw212_1), (cb_ HB hw213_0), (cb_ HB hw213_1)⟩ (fun hHeld => ?_); refine with_tabW sF70.tab12 sF70.bits12 (fun HT_ HW_ => ?_)
    generalize wr.drew = w52 at BK206 BK207 BK210 BK211 HB hx212_0 hx212_1 hx213_0 hx213_1 hHeld ⊢
    refine pu_ HT_ 0 54 #[ty, fy, fy, fy, fy, fy, fy, fy, fy, fy, fy] ?_
    refine pu_ HT_ 2 56 #[ty, fy, ty, fy, fy, fy, fy, fy, fy, fy, fy] ?_
    refine pu_ HT_ 5 59 #[ty, fy, ty, fy, fy, ty, fy, fy, fy, fy, fy] ?_
    refine pu_ HT_ 7 61 #[ty, fy, ty, fy, fy, ty, fy, ty, fy, fy, fy] ?_
    refine tk_ HT_ HW_ 1 55 #[ty, ty, ty, fy, fy, ty, fy, ty, fy, fy, fy] hHeld ?_ (hr := by rintro w' ⟨s0, s1, s2, s3, s4, s5, s6, s7⟩; go_simp; with_reducible rfl)
    refine pu_ HT_ 3 57 #[ty, ty, ty, ty, fy, ty, fy, ty, fy, fy, fy] ?_
    refine tk_ HT_ HW_ 4 58 #[ty, ty, ty, ty, ty, ty, fy, ty, fy, fy, fy] hHeld ?_ (hr := by rintro w' ⟨s0, s1, s2, s3, s4, s5, s6, s7⟩; go_simp; with_reducible rfl)
    refine tk_ HT_ HW_ 6 60 #[ty, ty, ty, ty, ty, ty, ty, ty, fy, fy, fy] hHeld ?_ (hr := by rintro w' ⟨s0, s1, s2, s3, s4, s5, s6, s7⟩; go_simp; with_reducible rfl)
    refine pu_ HT_ 8 62 #[ty, ty, ty, ty, ty, ty, ty, ty, ty, fy, fy] ?_
    refine tk_ HT_ HW_ 9 63 #[ty, ty, ty, ty, ty, ty, ty, ty, ty, ty, fy] hHeld ?_ (hr := by rintro w' ⟨s0, s1, s2, s3, s4, s5, s6, s7⟩; go_simp; with_reducible rfl)
    refine pu_ HT_ 10 64 #[ty, ty, ty, ty, ty, ty, ty, ty, ty, ty, ty] ?_
    refine done_ (done_of HT_.out (by kernel_rfl)) ?_
    try go_wp2
    go_roundg k3
    case measure => have := HK1.out; have := HJ11.out; have := HK3.out; omega
    case rel => exact ⟨(wrap64 (x8_3 + 1)), (by rfl), H', ⟨by have := HK1.out; have := HJ11.out; have := HK3.out; omega⟩, ⟨BK206.out⟩, ⟨BK207.out⟩, ⟨BK210.out⟩, ⟨BK211.out⟩, ⟨HB.out⟩⟩
end Go.Proofs.YtnnkedeohfbkeaaGreatDoor.P
namespace Go.Proofs.YtnnkedeohfbkeaaGreatDoor.P
open Go.RowKit Go.Proofs.YtnnkedeohfbkeaaGreatDoorW.PrintWords Go.Proofs.YtnnkedeohfbkeaaGreatDoorW.PrintLast Go.Proofs.YtnnkedeohfbkeaaGreatDoorW.PrintMore
open Go.Proofs.YtnnkedeohfbkeaaGreatDoorW.PrintWords renaming blk_frozen → bF_, blk_cell → bC_, below_set → bS_, blk_below → bB_, below_step → bT_, pw_below_drewN → bN_, below_size → bZ_, below_drew1 → bD_, below_alloc → bA_, blk_far → bR_, gate_callee → gC_, gate_dst → gD_, box_event → bE_, blk_drew → b1_, blk_put → bP_, blk_drewN → b2_, blk_alloc → b3_, blk_lt → bL_, cell_far → cF_
open Go.Proofs.YtnnkedeohfbkeaaGreatDoorW.PrintLast renaming any_of → aO_, i64_w → i6_, i32_w → i3_, take_ofW → tW_
open Go.Proofs.YtnnkedeohfbkeaaGreatDoorW.PrintWords.Kd renaming R_below → kB_, R_mono → kM_, R_far → kF_, R_reads' → kR_, R_types → kT_, R_slice → kS_, R_celln → kC_, R_alloc → k1_, R_drewN → k2_, R_drew → k3_, C_below → k4_, R_lower → k5_, R_ne → k6_, own_blk → k7_
open Go.Proofs.YtnnkedeohfbkeaaGreatDoorW.PrintWords.LeO renaming none → l0_, bind → l1_, ite → l2_, refl → l3_
open World renaming block_lt_of_cell? → wB_
open _root_.Option renaming bind_eq_some_iff → oB_
open _root_.ByteArray renaming empty → eB_
open List renaming setIfInBounds_toArray → sA_, set_cons_zero → sB_, set_cons_succ → sC_, map_toArray → sD_, map_cons → sE_, map_nil → sF_, length_drop → sG_, length_take → sH_
open Bool renaming true → ty, false → fy
open Aside0 renaming mk → aM_
attribute [local go_sem] max2_int min2_int max_two min_two max_three min_three max_four min_four
def sF68.l0 : Nat → List (List Int) → Int → List (S96) → Option ((List (List Int)))
 | 0, _, _, _ => none
 | k + 1, x3, x4, x215000 => if x4 < (x215000.length : Int) then (if 0 ≤ x4 then (if 0 ≤ ((rd_T96 x215000 x4).f1) then (if ((rd_T96 x215000 x4).f1) < (x3.length : Int) then (if (rd_L10 x3 ((rd_T96 x215000 x4).f1)).length < 17592186044416 then (sF68.l0 k (x3.set (((rd_T96 x215000 x4).f1) : Int).toNat ((rd_L10 x3 ((rd_T96 x215000 x4).f1)) ++ [x4])) (wrap64 (x4 + 1)) x215000) else (none)) else (none)) else (none)) else (none)) else (some x3)
def sF68.f (k : Nat) (l0_0 : List (S96)) : Option ((List (List Int))) := if 0 ≤ (l0_0.length : Int) then (if ((l0_0.length : Int) : Int).toNat ≤ 11728124029610 then (sF68.l0 k (List.replicate ((l0_0.length : Int) : Int).toNat []) 1 l0_0) else (none)) else (none)
theorem sF68.mono_l : ∀ k, (∀ y0 y1 y2, LeO (sF68.l0 k y0 y1 y2) (sF68.l0 (k + 1) y0 y1 y2))
 | 0 => fun _ _ _ r h => by simp [sF68.l0] at h
 | k + 1 => by
  have ih0 := sF68.mono_l k
  intro y0 y1 y2
  unfold sF68.l0
  repeat' with_reducible first | exact ih0 _ _ _ | exact l3_ _ | exact l0_ _ | refine l2_ ?_ ?_ | refine l1_ ?_ (fun _ => ?_)
theorem sF68.mono : ∀ a0 k, LeO (sF68.f k a0) (sF68.f (k + 1) a0) := by
 intro a0 k
 have ih0 := sF68.mono_l k
 unfold sF68.f
 repeat' with_reducible first | exact ih0 _ _ _ | exact l3_ _ | exact l0_ _ | refine l2_ ?_ ?_ | refine l1_ ?_ (fun _ => ?_)
theorem sF68.calls (k : Nat) (A0_0 : Option Addr) (c0_0 : Nat) (l0_0 : List (S96)) (r : List (List Int)) (w : World) (hr0_0 : Kd.C k96 w A0_0 l0_0.length l0_0) (hc0_0 : l0_0.length ≤ c0_0) (h : sF68.f k l0_0 = some r) :
  Calls Tryz.prog 101 #[.agg #[.slice A0_0 l0_0.length c0_0]] w fun e w' => ∃ v0_ : Value, e = .returned (v0_) ∧ Kd.S (Kd.slice 3 (Kd.int .i64)) 56 w' w.heap.size (fun _ => True) v0_ r ∧ Below w.heap.size w w' := by
 have hu28 := Tryz.underlying28
 have HR0_0 := aM_ hr0_0
 have HC0_0 := aM_ hc0_0
 clear hr0_0 hc0_0
 have HB := aM_ (Below.refl w.heap.size w)
 have H : (if 0 ≤ (l0_0.length : Int) then (if ((l0_0.length : Int) : Int).toNat ≤ 11728124029610 then (sF68.l0 k (List.replicate ((l0_0.length : Int) : Int).toNat []) 1 l0_0) else (none)) else (none)) = some r := h
 clear h
 by_cases c2 : 0 ≤ (l0_0.length : Int)
 rotate_left
 ·
  rw [if_neg c2] at H
  exact absurd H (by simp)
 rw [if_pos c2] at H
 have c2b0 := eq_true c2
 have c2b1 := dT_ c2
 clear c2
 by_cases c3 : ((l0_0.length : Int) : Int).toNat ≤ 11728124029610
 rotate_left
 ·
  rw [if_neg c3] at H
  exact absurd H (by simp)
 rw [if_pos c3] at H
 have c3b0 := eq_true c3
 have c3b1 := dT_ c3
 clear c3
 obtain ⟨y215, hy215⟩ : ∃ y_ : List (List Int), y_ = (List.replicate ((l0_0.length : Int) : Int).toNat []) := ⟨_, rfl⟩
 replace H : (sF68.l0 k y215 1 l0_0) = some r := by (try rw [hy215]); first | with_reducible exact H | with_reducible exact oS_ H | exact H
 have Ny215 := aM_ hy215
 clear hy215
 have H' := aM_ H
 clear H
 go_enter Tryz.func101, Tryz.ntmps101
 go_wp2_with (first | (refine bx_ 1 #[.slice A0_0 l0_0.length c0_0] 28 ?_; intro gb214 hg w4 hbox hb; have BK214 := aM_ (hbox); have GW214 := gw_ hg HB; replace HB := b4_ HB hb; clear hb hbox hg; have hcz5_0 := c0_ BK214; have hfz5_0 := bF_ BK214.out 0) | ((with_reducible refine gD_ (N := 9) rfl ?_); refine Kd.S_make (Kd.slice 3 (Kd.int .i64)) _ 56 rfl (N := 9) rfl 116 _ _ rfl (l0_0.length : Int) rfl rfl Tryz.underlying116 (.slice none 0 0) 24 info56 rfl (by decide) (by omega) [] (ok := fun _ => True) (okp := fun _ => True) ⟨_, rfl, Kd.R_nil _ _ _ _ _⟩ (fun _ hk => hk) trivial (oD_ ‹_›) (Nat.le_trans (Nat.mul_le_mul_right _ (oD_ ‹_› : (l0_0.length : Int).toNat ≤ 11728124029610)) (by omega)) (Below.refl _ _) (Nat.le_refl _) ?_; intro v216 w6 ho7 hb hg_ hnew_; clear hg_ hnew_; (rw [← Ny215.out] at ho7); have HO217 := aM_ (Kd.S_lower ho7 (bZ_ HB.out)); replace BK214 := b5_ BK214 hb; replace HB := b4_ HB hb; clear hb ho7))
 go_loopg [4] k (fun kq v4 w' => ∃ (x3_1 : List (List Int)) (x4_1 : Int), v4 = .int .i64 x4_1 ∧ Aside0 (sF68.l0 kq x3_1 x4_1 l0_0 = some r) ∧ Aside0 (kq ≤ k) ∧ Aside0 (Kd.S (Kd.slice 3 (Kd.int .i64)) 56 w' w.heap.size (fun _ => True) v216 x3_1) ∧ Aside0 (w'.heap[gb214]? = some (.cells #[(.slice A0_0 l0_0.length c0_0)] 28 (0, 0))) ∧ Aside0 (Below w.heap.size w w'))
 case atStart => exact ⟨(y215), (1), (by rfl), H', ⟨Nat.le_refl _⟩, ⟨by (with_reducible repeat (first | apply Kd.S_alloc | apply Kd.S_drewN | apply Kd.S_drew)); exact HO217.out⟩, ⟨BK214.out⟩, ⟨HB.out⟩⟩
 clear H'
 try clear c2b0
 try clear c2b1
 try clear p2
 try clear c3b0
 try clear c3b1
 try clear hcz5_0
 try clear hfz5_0
 obtain ⟨x3_1, x4_1, rfl, HA, HK1, HO_3, BK214, HB⟩ := hrel
 cases gk with
 | zero => exact absurd HA.out (by simp [sF68.l0])
 | succ k1 =>
  have H := HA.out
  clear HA
  simp only [sF68.l0] at H
  by_cases c8 : x4_1 < (l0_0.length : Int)
  rotate_left
  ·
   rw [if_neg c8] at H
   have c8b0 := dF_ c8
   clear c8
   obtain rfl := Option.some.inj H
   have hcz21_0 := c0_ BK214
   have hfz21_0 := bF_ BK214.out 0
   go_wp2
   go_ret
   exact ⟨_, by rfl, by (with_reducible repeat (first | apply Kd.S_alloc | apply Kd.S_drewN | apply Kd.S_drew)); exact HO_3.out, by exact HB.out⟩
  rw [if_pos c8] at H
  have c8b0 := dT_ c8
  clear c8
  by_cases c9 : 0 ≤ x4_1
  rotate_left
  ·
   rw [if_neg c9] at H
   exact absurd H (by simp)
  rw [if_pos c9] at H
  have c9b0 := dT_ c9
  clear c9
  by_cases c10 : 0 ≤ ((rd_T96 l0_0 x4_1).f1)
  rotate_left
  ·
   rw [if_neg c10] at H
   exact absurd H (by simp)
  rw [if_pos c10] at H
  have c10b0 := dT_ c10
  clear c10
  by_cases c11 : ((rd_T96 l0_0 x4_1).f1) < (x3_1.length : Int)
  rotate_left
  ·
   rw [if_neg c11] at H
   exact absurd H (by simp)
  rw [if_pos c11] at H
  have c11b0 := dT_ c11
  clear c11
  by_cases c12 : (rd_L10 x3_1 ((rd_T96 l0_0 x4_1).f1)).length < 17592186044416
  rotate_left
  ·
   rw [if_neg c12] at H
   exact absurd H (by simp)
  rw [if_pos c12] at H
  have LMc12 := aM_ c12
  clear c12
  obtain ⟨y220, hy220⟩ : ∃ y_ : List Int, y_ = ((rd_L10 x3_1 ((rd_T96 l0_0 x4_1).f1)) ++ [x4_1]) := ⟨_, rfl⟩
  replace H : (sF68.l0 k1 (x3_1.set (((rd_T96 l0_0 x4_1).f1) : Int).toNat y220) (wrap64 (x4_1 + 1)) l0_0) = some r := by (try rw [hy220]); first | with_reducible exact H | with_reducible exact oS_ H | exact H
  have Ny220 := aM_ hy220
  clear hy220
  obtain ⟨y223, hy223⟩ : ∃ y_ : List (List Int), y_ = (x3_1.set (((rd_T96 l0_0 x4_1).f1) : Int).toNat y220) := ⟨_, rfl⟩
  replace H : (sF68.l0 k1 y223 (wrap64 (x4_1 + 1)) l0_0) = some r := by (try rw [hy223]); first | with_reducible exact H | with_reducible exact oS_ H | exact H
  have Ny223 := aM_ hy223
  clear hy223
  have H' := aM_ H
  clear H
  have hcz14_0 := c0_ BK214
  have hfz14_0 := bF_ BK214.out 0
  have p218 : 0 ≤ (x4_1 : Int) := oD_ ‹_›
  have q218 : x4_1 < (l0_0.length : Int) := oD_ ‹_›
  obtain ⟨ad218, e218, hx218_0, hx218_1, hx218_2⟩ := at_T96 HR0_0.out x4_1 p218 q218
  cases e218
  replace hx218_0 := cb_ HB hx218_0
  replace hx218_1 := cb_ HB hx218_1
  replace hx218_2 := cb_ HB hx218_2
  replace p218 := eq_true p218
  replace q218 := eq_true q218
  obtain ⟨Ao15, co15, eo15⟩ := Kd.S_slice HO_3.out
  subst eo15
  have p219 : 0 ≤ (((rd_T96 l0_0 x4_1).f1) : Int) := oD_ ‹_›
  have q219 : ((rd_T96 l0_0 x4_1).f1) < (x3_1.length : Int) := oD_ ‹_›
  obtain ⟨ad219, A219_0, c219_0, e219, hx219_0, hl219_0, hi219_0⟩ := at_L10 (Kd.S_reads' HO_3.out).2.2 ((rd_T96 l0_0 x4_1).f1) p219 q219
  cases e219
  obtain ⟨ce219, hce219, hMe219, hcc219⟩ := Kd.S_get HO_3.out [] ((rd_T96 l0_0 x4_1).f1) p219 (by exact q219)
  obtain ⟨ve219_0, rfl, ge219_0⟩ := hMe219
  have hv219_0 := hcc219 0 _ rfl
  rw [Nat.add_zero, show ((Kd.slice 3 (Kd.int .i64))).sz = 1 from rfl, Nat.mul_one] at hv219_0
  replace hv219_0 := Option.some.inj (hv219_0.symm.trans hx219_0)
  rw [hv219_0] at ge219_0
  have HL219_0 := aM_ (show Kd.R (Kd.int .i64) 3 _ _ _ _ (rd_L10 x3_1 ((rd_T96 l0_0 x4_1).f1)) from ge219_0)
  clear hv219_0 ge219_0
  have HX219_0 := aM_ hx219_0
  clear hcc219 hce219
  have HR219_0 := aM_ hi219_0
  have HC219_0 := aM_ hl219_0
  clear hi219_0 hl219_0
  replace p219 := eq_true p219
  replace q219 := eq_true q219
  obtain ⟨go16, co16, eo16, gb16, gl16, cl16, HG16⟩ := Kd.S_form HO_3.out (by have h_ : (((rd_T96 l0_0 x4_1).f1) : Int) < ((x3_1.length : Int) : Int) := oD_ ‹_›; have h2_ : 0 ≤ (((rd_T96 l0_0 x4_1).f1) : Int) := (oD_ ‹_›); omega)
  (cases eo16)
  have GB16 := aM_ gb16
  have GG16 := aM_ HG16
  clear gb16 gl16 HG16
  (simp only [add_plain] at hx219_0)
  (try simp only [Int.toNat_natCast] at hx219_0)
  obtain ⟨oki16, ce16, hcl16, hM16, hcc16, _, _, hH16⟩ := Kd.S_elem HO_3.out [] (((rd_T96 l0_0 x4_1).f1) : Int) (oD_ ‹_›) (by have h_ : (((rd_T96 l0_0 x4_1).f1) : Int) < ((x3_1.length : Int) : Int) := oD_ ‹_›; exact h_)
  obtain ⟨ve16_0, rfl, ge16_0⟩ := hM16
  have hv16 := hcc16 0 _ rfl
  have hX16 := HX219_0.out
  (try simp only [add_plain] at hX16)
  (try simp only [Nat.add_zero] at hv16)
  (try rw [show ((Kd.slice 3 (Kd.int .i64))).sz = 1 from rfl, Nat.mul_one] at hv16)
  replace hv16 := Option.some.inj (hv16.symm.trans hX16)
  subst hv16
  clear hX16 hcc16 hcl16
  have UU16 := aM_ (show Kd.R (Kd.int .i64) 3 _ w.heap.size oki16 (.slice A219_0 (rd_L10 x3_1 ((rd_T96 l0_0 x4_1).f1)).length c219_0) (rd_L10 x3_1 ((rd_T96 l0_0 x4_1).f1)) from ge16_0)
  have HH16 := aM_ hH16
  have HN16 := aM_ (Kd.S_reads' HO_3.out).1
  clear hH16 ge16_0
  go_wp2_with (first | ((with_reducible refine gate_builtin (b := .append) (xs := #[.tmp 28, .tmp 30]) rfl ?_); at_builtin; refine Kd.R_append (Kd.int .i64) (w0 := w) w.heap.size rfl (.tmp 28) (.tmp 30) 56 3 (.int .i64 0) 8 rfl Tryz.underlying56 info3 rfl (by decide) (by omega) (.slice A219_0 (rd_L10 x3_1 ((rd_T96 l0_0 x4_1).f1)).length c219_0) (rd_L10 x3_1 ((rd_T96 l0_0 x4_1).f1)) x4_1 [.int .i64 x4_1] (fun k_ => oki16 k_ ∨ ((fun _ => True)) k_ ∧ wr.heap.size ≤ k_) (fun _ => False) rfl rfl ?aP (fun _ hk => hk.elim) ?aF ?aO ?aB ?aS ?aL ?_; (case aP => exact rfl); (case aB => exact HB.out); (case aF => exact (fun k_ hk => .inr ⟨trivial, hk⟩)); (case aO => exact (by exact kM_ UU16.out (fun _ hk => .inl hk))); (case aS => exact (bZ_ HB.out)); (case aL => have := LMc12.out; omega); intro v221 w17 ho hb hg hat; rw [← Ny220.out] at ho; have n0_ := aM_ (blk_grown (g := gb214) (o := .cells #[.slice (some ad218) l0_0.length c0_0] 28 (0, 0)) BK214.out hg (k6_ HL219_0.out BK214.out (by decide))); have n1_ := aM_ (hb); have n2_ := aM_ (Kd.H_grown (Kd.H_widen (by repeat (first | exact HH16.out | refine Kd.H_alloc ?_ _ | refine Kd.H_drewN ?_ _ | refine Kd.H_drew ?_))) hg (fun k_ e_ => .inl (UU16.out.1 k_ e_))); have n3_ := aM_ (ho); clear BK214; clear HB; clear HH16; clear HO_3; clear UU16; clear HL219_0; have BK214 := n0_; have HB := n1_; have HH16 := n2_; have HO222 := n3_; clear n0_ n1_ n2_ n3_; clear ho hb hg hat; have p13 : 0 ≤ (((rd_T96 l0_0 x4_1).f1) : Int) := oD_ ‹_›; have q13 : (((rd_T96 l0_0 x4_1).f1) : Int) < ((x3_1.length : Int) : Int) := oD_ ‹_›; replace p13 := eq_true p13; replace q13 := eq_true q13; obtain ⟨Ao20, co20, eo20⟩ := kS_ HO222.out; subst eo20; obtain ⟨_, _, hraw18, _, _, hcc18, _⟩ := Kd.H_raw HH16.out (oD_ ‹_›) (by have h_ : (((rd_T96 l0_0 x4_1).f1) : Int) < ((x3_1.length : Int) : Int) := oD_ ‹_›; exact h_); obtain ⟨_, hfr18⟩ := Kd.H_at HH16.out (oD_ ‹_›) (by have h_ : (((rd_T96 l0_0 x4_1).f1) : Int) < ((x3_1.length : Int) : Int) := oD_ ‹_›; exact h_); have hx18_0 := hcc18 0 _ rfl; have hf18_0 := hfr18 0; (try simp only [Nat.add_zero] at hx18_0 hf18_0); (try rw [show ((Kd.slice 3 (Kd.int .i64))).sz = 1 from rfl, Nat.mul_one] at hx18_0); (try rw [show ((Kd.slice 3 (Kd.int .i64))).sz = 1 from rfl, Nat.mul_one] at hf18_0); have HP18 := Kd.S_seg0 HH16.out (oD_ ‹_›) (by have h_ : (((rd_T96 l0_0 x4_1).f1) : Int) < ((x3_1.length : Int) : Int) := oD_ ‹_›; exact h_) (seg := [.slice Ao20 y220.length co20]) (j := 0) (show 1 ≤ 1 from by decide) (x' := y220) (Kd.M_row HO222.out) (fun _ hk => hk); (try simp only [show ((Kd.slice 3 (Kd.int .i64))).sz = 1 from rfl, Nat.mul_one, Nat.add_zero] at HP18); clear hcc18 hfr18) | ((with_reducible refine gate_store (t := 56) (p := 32) rfl ?_); refine store_event (t := 56) (p := 32) (v := ?vo_w19) (w1 := (w17.setCell ⟨go16, (((rd_T96 l0_0 x4_1).f1) : Int).toNat, none⟩ (.slice Ao20 y220.length co20))) ?hg ?ho ?hn ?hr ?_; (case ho => rfl); (case hg => rfl); (case hn => rfl); (case hr => (go_simp; done)); intro w19 hw; have hg : w17.grownBy w19 (some go16) := (by rw [hw]; exact HP18.2); have hp_ : Kd.S (Kd.slice 3 (Kd.int .i64)) 56 w19 w.heap.size (fun _ => True) (.slice (some ⟨go16, 0, none⟩) x3_1.length co15) y223 := (by rw [hw, Ny223.out]; exact HP18.1); clear HP18; have n0_ := aM_ (blk_grown (g := gb214) (o := .cells #[.slice (some ad218) l0_0.length c0_0] 28 (0, 0)) BK214.out hg (k6_ hraw18 BK214.out (by decide))); have n1_ := aM_ ((by rw [hw]; exact bS_ HB.out GB16.out : Below w.heap.size w w19)); have n2_ := aM_ (hp_); clear BK214; clear HB; clear HO222; clear HH16; have BK214 := n0_; have HB := n1_; have HO_3 := n2_; clear n0_ n1_ n2_; clear hg hw hp_ hraw18))
  go_roundg k1
  case measure => have := HK1.out; omega
  case rel => exact ⟨(y223), (wrap64 (x4_1 + 1)), (by rfl), H', ⟨by have := HK1.out; omega⟩, ⟨by (with_reducible repeat (first | apply Kd.S_alloc | apply Kd.S_drewN | apply Kd.S_drew)); exact HO_3.out⟩, ⟨BK214.out⟩, ⟨HB.out⟩⟩
end Go.Proofs.YtnnkedeohfbkeaaGreatDoor.P
