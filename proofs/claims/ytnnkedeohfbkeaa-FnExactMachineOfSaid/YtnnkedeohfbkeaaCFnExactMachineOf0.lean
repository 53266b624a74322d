/-
  Part 1 of the proof that FnExactMachineOf returns true for every input: the functions that it reaches, each with its contract, and the law.
  Conditions: those of the given statement, no others.
-/
import Derived.Test.YtnnkedeohfbkeaaCFnExactMachineOfW0
import Derived.Test.YtnnkedeohfbkeaaProg
import Derived.Below
import Derived.Deep.Draws
import Derived.Deep.AppendLies
import Derived.Maps.AppendAt
import Derived.OwnWalk
import Derived.Laws.BytesArg
import Derived.Laws.MakeOwn
import Derived.Laws.OwnMore
import Derived.Deep.OwnRows
import Derived.Tactics
import Derived.Lib.ConvBytes
import Derived.Laws.Slices
import Derived.WalkKit
import Derived.KernelRfl
import Derived.RowKit3
import Derived.Deep.LoopGhost
import Derived.Deep.QuietTactic
import Derived.BigQuiet
import Derived.WideLaws
import Derived.Deep.DeepCutAuto
import Derived.Deep.CutBlock
import Derived.Deep.RegionHeld3
import Derived.Laws.Rows
import Derived.Lib.AppendStr
import Derived.ArgAppend
import Derived.Laws.IdiomCopy
import Derived.OrdersHeld
import Derived.Laws.BitsLemmas
import Derived.RowKit
set_option linter.unusedVariables false
set_option linter.unusedSimpArgs false
set_option maxHeartbeats 8000000
set_option maxRecDepth 100000
namespace Go.Proofs.Ytnnkedeohfbkeaa.P
open Go.RowKit Go.Proofs.YtnnkedeohfbkeaaW.PrintWords Go.Proofs.YtnnkedeohfbkeaaW.PrintLast Go.Proofs.YtnnkedeohfbkeaaW.PrintMore
attribute [local go_sem] max2_int min2_int max_two min_two max_three min_three max_four min_four
def errW : Option Int → Value
  | none => .nilIface
  | some c => .iface 0 (.int .i64 c)
theorem errW_none : errW none = .nilIface := rfl
theorem errW_some (c : Int) : errW (some c) = .iface 0 (.int .i64 c) := rfl
theorem info3 : (Try.prog.info? 3).map (fun i => (i.zero, i.size, i.bytes)) = some (some (.int .i64 0), 1, 8) := by kernel_rfl
theorem info5 : (Try.prog.info? 5).map (fun i => (i.zero, i.size, i.bytes)) = some (some (.int .u8 0), 1, 1) := by kernel_rfl
theorem info9 : (Try.prog.info? 9).map (fun i => (i.zero, i.size, i.bytes)) = some (some (.string ⟨#[]⟩), 1, 16) := by kernel_rfl
theorem info47 : (Try.prog.info? 47).map (fun i => (i.zero, i.size, i.bytes)) = some (some (.slice none 0 0), 1, 24) := by kernel_rfl
theorem info65 : (Try.prog.info? 65).map (fun i => (i.zero, i.size, i.bytes)) = some (some (.agg #[(.int .i64 0), (.int .i64 0), (.bool false)]), 3, 24) := by kernel_rfl
theorem info77 : (Try.prog.info? 77).map (fun i => (i.zero, i.size, i.bytes)) = some (some (.agg #[(.bool false), (.slice none 0 0)]), 2, 32) := by kernel_rfl
theorem info78 : (Try.prog.info? 78).map (fun i => (i.zero, i.size, i.bytes)) = some (some (.agg #[(.int .i64 0), (.int .i64 0)]), 2, 16) := by kernel_rfl
structure S67 where
  f0 : Int
  f1 : Int
  f2 : Bool
def z67 : S67 := ⟨(0 : Int), (0 : Int), false⟩
def k67 : Kd S67 := Kd.iso (Kd.pair (Kd.int .i64) (Kd.pair (Kd.int .i64) Kd.bool)) (fun x : S67 => (x.f0, x.f1, x.f2))
theorem k67_open {w : World} {x : S67} {cs : List Value} (h : k67.K w x cs) : cs = [.int .i64 x.f0, .int .i64 x.f1, .bool x.f2] := by
  obtain ⟨_, _, rfl, rfl, ⟨_, _, rfl, rfl, rfl⟩⟩ := h
  exact rfl
theorem k67_openM {w : World} {base : Nat} {ok : Nat → Prop} {x : S67} {cs : List Value} (h : k67.M w base ok x cs) : cs = [.int .i64 x.f0, .int .i64 x.f1, .bool x.f2] := by
  obtain ⟨_, _, rfl, rfl, ⟨_, _, rfl, rfl, rfl⟩⟩ := h
  exact rfl
theorem k67_mk (w : World) (x : S67)  : k67.K w x [.int .i64 x.f0, .int .i64 x.f1, .bool x.f2] := ⟨[.int .i64 x.f0], [.int .i64 x.f1, .bool x.f2], rfl, rfl, ⟨[.int .i64 x.f1], [.bool x.f2], rfl, rfl, rfl⟩⟩
theorem k67_mkM (w : World) (base : Nat) (ok : Nat → Prop) (x : S67)  : k67.M w base ok x [.int .i64 x.f0, .int .i64 x.f1, .bool x.f2] := ⟨[.int .i64 x.f0], [.int .i64 x.f1, .bool x.f2], rfl, rfl, ⟨[.int .i64 x.f1], [.bool x.f2], rfl, rfl, rfl⟩⟩
def rd_T67 (xs : List S67) (i : Int) : S67 := xs.getD i.toNat z67
theorem at_T67 {w : World} {A : Option Addr} {n : Nat} {xs : List S67} (h : Kd.C k67 w A n xs) (i : Int) (h0 : 0 ≤ i) (h1 : i < n) : ∃ ad , A = some ad ∧ w.cell? (ad.add (i.toNat * 3)) = some (.int .i64 (rd_T67 xs i).f0) ∧ w.cell? ⟨(ad.add (i.toNat * 3)).block, (ad.add (i.toNat * 3)).off + 1, none⟩ = some (.int .i64 (rd_T67 xs i).f1) ∧ w.cell? ⟨(ad.add (i.toNat * 3)).block, (ad.add (i.toNat * 3)).off + 2, none⟩ = some (.bool (rd_T67 xs i).f2) := by
  obtain ⟨ad, c, e, _, hK, hc0⟩ := Kd.C_get h z67 i h0 h1
  have hc : ∀ j u, c[j]? = some u → w.cell? (ad.add (i.toNat * 3 + j)) = some u := hc0
  obtain rfl := k67_open hK
  exact ⟨ad, e, hc 0 _ rfl, by rw [← add_field _ _ 1 (by omega)]; exact hc 1 _ rfl, by rw [← add_field _ _ 2 (by omega)]; exact hc 2 _ rfl⟩
def rd_L4 (xs : List (List ByteArray)) (i : Int) : (List ByteArray) := xs.getD i.toNat ([] : List ByteArray)
theorem at_L4 {w : World} {A : Option Addr} {n : Nat} {xs : List (List ByteArray)} (h : Kd.C (Kd.slice 9 Kd.string) w A n xs) (i : Int) (h0 : 0 ≤ i) (h1 : i < n) : ∃ ad A0 c0, A = some ad ∧ w.cell? (ad.add i.toNat) = some (.slice A0 (rd_L4 xs i).length c0) ∧ (rd_L4 xs i).length ≤ c0 ∧ Kd.string.C w A0 (rd_L4 xs i).length (rd_L4 xs i) := by
  obtain ⟨ad, c, e, _, hK, hc0⟩ := Kd.C_get h ([] : List ByteArray) i h0 h1
  have hc : ∀ j u, c[j]? = some u → w.cell? (ad.add (i.toNat * 1 + j)) = some u := hc0
  obtain ⟨A0, c0, rfl, l0, g0⟩ := hK
  exact ⟨ad, A0, c0, e, by have hq := hc 0 _ rfl; rwa [Nat.mul_one, Nat.add_zero] at hq, l0, g0⟩
structure S65 where
  f0 : Int
  f1 : Int
  f2 : Bool
def z65 : S65 := ⟨(0 : Int), (0 : Int), false⟩
def k65 : Kd S65 := Kd.iso (Kd.pair (Kd.int .i64) (Kd.pair (Kd.int .i64) Kd.bool)) (fun x : S65 => (x.f0, x.f1, x.f2))
theorem k65_open {w : World} {x : S65} {cs : List Value} (h : k65.K w x cs) : cs = [.int .i64 x.f0, .int .i64 x.f1, .bool x.f2] := by
  obtain ⟨_, _, rfl, rfl, ⟨_, _, rfl, rfl, rfl⟩⟩ := h
  exact rfl
theorem k65_openM {w : World} {base : Nat} {ok : Nat → Prop} {x : S65} {cs : List Value} (h : k65.M w base ok x cs) : cs = [.int .i64 x.f0, .int .i64 x.f1, .bool x.f2] := by
  obtain ⟨_, _, rfl, rfl, ⟨_, _, rfl, rfl, rfl⟩⟩ := h
  exact rfl
theorem k65_mk (w : World) (x : S65)  : k65.K w x [.int .i64 x.f0, .int .i64 x.f1, .bool x.f2] := ⟨[.int .i64 x.f0], [.int .i64 x.f1, .bool x.f2], rfl, rfl, ⟨[.int .i64 x.f1], [.bool x.f2], rfl, rfl, rfl⟩⟩
theorem k65_mkM (w : World) (base : Nat) (ok : Nat → Prop) (x : S65)  : k65.M w base ok x [.int .i64 x.f0, .int .i64 x.f1, .bool x.f2] := ⟨[.int .i64 x.f0], [.int .i64 x.f1, .bool x.f2], rfl, rfl, ⟨[.int .i64 x.f1], [.bool x.f2], rfl, rfl, rfl⟩⟩
def rd_T65 (xs : List S65) (i : Int) : S65 := xs.getD i.toNat z65
theorem at_T65 {w : World} {A : Option Addr} {n : Nat} {xs : List S65} (h : Kd.C k65 w A n xs) (i : Int) (h0 : 0 ≤ i) (h1 : i < n) : ∃ ad , A = some ad ∧ w.cell? (ad.add (i.toNat * 3)) = some (.int .i64 (rd_T65 xs i).f0) ∧ w.cell? ⟨(ad.add (i.toNat * 3)).block, (ad.add (i.toNat * 3)).off + 1, none⟩ = some (.int .i64 (rd_T65 xs i).f1) ∧ w.cell? ⟨(ad.add (i.toNat * 3)).block, (ad.add (i.toNat * 3)).off + 2, none⟩ = some (.bool (rd_T65 xs i).f2) := by
  obtain ⟨ad, c, e, _, hK, hc0⟩ := Kd.C_get h z65 i h0 h1
  have hc : ∀ j u, c[j]? = some u → w.cell? (ad.add (i.toNat * 3 + j)) = some u := hc0
  obtain rfl := k65_open hK
  exact ⟨ad, e, hc 0 _ rfl, by rw [← add_field _ _ 1 (by omega)]; exact hc 1 _ rfl, by rw [← add_field _ _ 2 (by omega)]; exact hc 2 _ rfl⟩
def rd_L7 (xs : List (List Int)) (i : Int) : (List Int) := xs.getD i.toNat ([] : List Int)
theorem at_L7 {w : World} {A : Option Addr} {n : Nat} {xs : List (List Int)} (h : Kd.C (Kd.slice 3 (Kd.int .i64)) w A n xs) (i : Int) (h0 : 0 ≤ i) (h1 : i < n) : ∃ ad A0 c0, A = some ad ∧ w.cell? (ad.add i.toNat) = some (.slice A0 (rd_L7 xs i).length c0) ∧ (rd_L7 xs i).length ≤ c0 ∧ (Kd.int .i64).C w A0 (rd_L7 xs i).length (rd_L7 xs i) := by
  obtain ⟨ad, c, e, _, hK, hc0⟩ := Kd.C_get h ([] : List Int) i h0 h1
  have hc : ∀ j u, c[j]? = some u → w.cell? (ad.add (i.toNat * 1 + j)) = some u := hc0
  obtain ⟨A0, c0, rfl, l0, g0⟩ := hK
  exact ⟨ad, A0, c0, e, by have hq := hc 0 _ rfl; rwa [Nat.mul_one, Nat.add_zero] at hq, l0, g0⟩
def rd_L8 (xs : List (List S65)) (i : Int) : (List S65) := xs.getD i.toNat ([] : List S65)
theorem at_L8 {w : World} {A : Option Addr} {n : Nat} {xs : List (List S65)} (h : Kd.C (Kd.slice 65 k65) w A n xs) (i : Int) (h0 : 0 ≤ i) (h1 : i < n) : ∃ ad A0 c0, A = some ad ∧ w.cell? (ad.add i.toNat) = some (.slice A0 (rd_L8 xs i).length c0) ∧ (rd_L8 xs i).length ≤ c0 ∧ k65.C w A0 (rd_L8 xs i).length (rd_L8 xs i) := by
  obtain ⟨ad, c, e, _, hK, hc0⟩ := Kd.C_get h ([] : List S65) i h0 h1
  have hc : ∀ j u, c[j]? = some u → w.cell? (ad.add (i.toNat * 1 + j)) = some u := hc0
  obtain ⟨A0, c0, rfl, l0, g0⟩ := hK
  exact ⟨ad, A0, c0, e, by have hq := hc 0 _ rfl; rwa [Nat.mul_one, Nat.add_zero] at hq, l0, g0⟩
structure S30 where
  f0 : (List S65)
def z30 : S30 := ⟨([] : List S65)⟩
def k30 : Kd S30 := Kd.iso (Kd.slice 65 k65) (fun x : S30 => x.f0)
theorem k30_open {w : World} {x : S30} {cs : List Value} (h : k30.K w x cs) : ∃ A0 c0, cs = [.slice A0 x.f0.length c0] ∧ x.f0.length ≤ c0 ∧ k65.C w A0 x.f0.length x.f0 := by
  obtain ⟨A0, c0, rfl, l0, g0⟩ := h
  exact ⟨A0, c0, rfl, l0, g0⟩
theorem k30_openM {w : World} {base : Nat} {ok : Nat → Prop} {x : S30} {cs : List Value} (h : k30.M w base ok x cs) : ∃ v0, cs = [v0] ∧ k65.R 65 w base ok v0 x.f0 := by
  obtain ⟨v0, rfl, g0⟩ := h
  exact ⟨v0, rfl, g0⟩
theorem k30_mk (w : World) (x : S30) {A0 : Option Addr} {c0 : Nat} (l0 : x.f0.length ≤ c0) (g0 : k65.C w A0 x.f0.length x.f0) : k30.K w x [.slice A0 x.f0.length c0] := ⟨A0, c0, rfl, l0, g0⟩
theorem k30_mkM (w : World) (base : Nat) (ok : Nat → Prop) (x : S30) {v0 : Value} (g0 : k65.R 65 w base ok v0 x.f0) : k30.M w base ok x [v0] := ⟨v0, rfl, g0⟩
def rd_T30 (xs : List S30) (i : Int) : S30 := xs.getD i.toNat z30
theorem at_T30 {w : World} {A : Option Addr} {n : Nat} {xs : List S30} (h : Kd.C k30 w A n xs) (i : Int) (h0 : 0 ≤ i) (h1 : i < n) : ∃ ad A0 c0, A = some ad ∧ w.cell? (ad.add i.toNat) = some (.slice A0 (rd_T30 xs i).f0.length c0) ∧ (rd_T30 xs i).f0.length ≤ c0 ∧ k65.C w A0 (rd_T30 xs i).f0.length (rd_T30 xs i).f0 := by
  obtain ⟨ad, c, e, _, hK, hc0⟩ := Kd.C_get h z30 i h0 h1
  have hc : ∀ j u, c[j]? = some u → w.cell? (ad.add (i.toNat * 1 + j)) = some u := hc0
  obtain ⟨A0, c0, rfl, l0, g0⟩ := k30_open hK
  exact ⟨ad, A0, c0, e, by have hq := hc 0 _ rfl; rwa [Nat.mul_one, Nat.add_zero] at hq, l0, g0⟩
structure S78 where
  f0 : Int
  f1 : Int
def z78 : S78 := ⟨(0 : Int), (0 : Int)⟩
def k78 : Kd S78 := Kd.iso (Kd.pair (Kd.int .i64) (Kd.int .i64)) (fun x : S78 => (x.f0, x.f1))
theorem k78_open {w : World} {x : S78} {cs : List Value} (h : k78.K w x cs) : cs = [.int .i64 x.f0, .int .i64 x.f1] := by
  obtain ⟨_, _, rfl, rfl, rfl⟩ := h
  exact rfl
theorem k78_openM {w : World} {base : Nat} {ok : Nat → Prop} {x : S78} {cs : List Value} (h : k78.M w base ok x cs) : cs = [.int .i64 x.f0, .int .i64 x.f1] := by
  obtain ⟨_, _, rfl, rfl, rfl⟩ := h
  exact rfl
theorem k78_mk (w : World) (x : S78)  : k78.K w x [.int .i64 x.f0, .int .i64 x.f1] := ⟨[.int .i64 x.f0], [.int .i64 x.f1], rfl, rfl, rfl⟩
theorem k78_mkM (w : World) (base : Nat) (ok : Nat → Prop) (x : S78)  : k78.M w base ok x [.int .i64 x.f0, .int .i64 x.f1] := ⟨[.int .i64 x.f0], [.int .i64 x.f1], rfl, rfl, rfl⟩
def rd_T78 (xs : List S78) (i : Int) : S78 := xs.getD i.toNat z78
theorem at_T78 {w : World} {A : Option Addr} {n : Nat} {xs : List S78} (h : Kd.C k78 w A n xs) (i : Int) (h0 : 0 ≤ i) (h1 : i < n) : ∃ ad , A = some ad ∧ w.cell? (ad.add (i.toNat * 2)) = some (.int .i64 (rd_T78 xs i).f0) ∧ w.cell? ⟨(ad.add (i.toNat * 2)).block, (ad.add (i.toNat * 2)).off + 1, none⟩ = some (.int .i64 (rd_T78 xs i).f1) := by
  obtain ⟨ad, c, e, _, hK, hc0⟩ := Kd.C_get h z78 i h0 h1
  have hc : ∀ j u, c[j]? = some u → w.cell? (ad.add (i.toNat * 2 + j)) = some u := hc0
  obtain rfl := k78_open hK
  exact ⟨ad, e, hc 0 _ rfl, by rw [← add_field _ _ 1 (by omega)]; exact hc 1 _ rfl⟩
def rd_L11 (xs : List (List S78)) (i : Int) : (List S78) := xs.getD i.toNat ([] : List S78)
theorem at_L11 {w : World} {A : Option Addr} {n : Nat} {xs : List (List S78)} (h : Kd.C (Kd.slice 78 k78) w A n xs) (i : Int) (h0 : 0 ≤ i) (h1 : i < n) : ∃ ad A0 c0, A = some ad ∧ w.cell? (ad.add i.toNat) = some (.slice A0 (rd_L11 xs i).length c0) ∧ (rd_L11 xs i).length ≤ c0 ∧ k78.C w A0 (rd_L11 xs i).length (rd_L11 xs i) := by
  obtain ⟨ad, c, e, _, hK, hc0⟩ := Kd.C_get h ([] : List S78) i h0 h1
  have hc : ∀ j u, c[j]? = some u → w.cell? (ad.add (i.toNat * 1 + j)) = some u := hc0
  obtain ⟨A0, c0, rfl, l0, g0⟩ := hK
  exact ⟨ad, A0, c0, e, by have hq := hc 0 _ rfl; rwa [Nat.mul_one, Nat.add_zero] at hq, l0, g0⟩
structure S77 where
  f0 : Bool
  f1 : (List S78)
def z77 : S77 := ⟨false, ([] : List S78)⟩
def k77 : Kd S77 := Kd.iso (Kd.pair Kd.bool (Kd.slice 78 k78)) (fun x : S77 => (x.f0, x.f1))
theorem k77_open {w : World} {x : S77} {cs : List Value} (h : k77.K w x cs) : ∃ A1 c1, cs = [.bool x.f0, .slice A1 x.f1.length c1] ∧ x.f1.length ≤ c1 ∧ k78.C w A1 x.f1.length x.f1 := by
  obtain ⟨_, _, rfl, rfl, ⟨A1, c1, rfl, l1, g1⟩⟩ := h
  exact ⟨A1, c1, rfl, l1, g1⟩
theorem k77_openM {w : World} {base : Nat} {ok : Nat → Prop} {x : S77} {cs : List Value} (h : k77.M w base ok x cs) : ∃ v1, cs = [.bool x.f0, v1] ∧ k78.R 78 w base ok v1 x.f1 := by
  obtain ⟨_, _, rfl, rfl, ⟨v1, rfl, g1⟩⟩ := h
  exact ⟨v1, rfl, g1⟩
theorem k77_mk (w : World) (x : S77) {A1 : Option Addr} {c1 : Nat} (l1 : x.f1.length ≤ c1) (g1 : k78.C w A1 x.f1.length x.f1) : k77.K w x [.bool x.f0, .slice A1 x.f1.length c1] := ⟨[.bool x.f0], [.slice A1 x.f1.length c1], rfl, rfl, ⟨A1, c1, rfl, l1, g1⟩⟩
theorem k77_mkM (w : World) (base : Nat) (ok : Nat → Prop) (x : S77) {v1 : Value} (g1 : k78.R 78 w base ok v1 x.f1) : k77.M w base ok x [.bool x.f0, v1] := ⟨[.bool x.f0], [v1], rfl, rfl, ⟨v1, rfl, g1⟩⟩
def rd_T77 (xs : List S77) (i : Int) : S77 := xs.getD i.toNat z77
theorem at_T77 {w : World} {A : Option Addr} {n : Nat} {xs : List S77} (h : Kd.C k77 w A n xs) (i : Int) (h0 : 0 ≤ i) (h1 : i < n) : ∃ ad A1 c1, A = some ad ∧ w.cell? (ad.add (i.toNat * 2)) = some (.bool (rd_T77 xs i).f0) ∧ w.cell? ⟨(ad.add (i.toNat * 2)).block, (ad.add (i.toNat * 2)).off + 1, none⟩ = some (.slice A1 (rd_T77 xs i).f1.length c1) ∧ (rd_T77 xs i).f1.length ≤ c1 ∧ k78.C w A1 (rd_T77 xs i).f1.length (rd_T77 xs i).f1 := by
  obtain ⟨ad, c, e, _, hK, hc0⟩ := Kd.C_get h z77 i h0 h1
  have hc : ∀ j u, c[j]? = some u → w.cell? (ad.add (i.toNat * 2 + j)) = some u := hc0
  obtain ⟨A1, c1, rfl, l1, g1⟩ := k77_open hK
  exact ⟨ad, A1, c1, e, hc 0 _ rfl, by rw [← add_field _ _ 1 (by omega)]; exact hc 1 _ rfl, l1, g1⟩
def rd_L13 (xs : List (List S77)) (i : Int) : (List S77) := xs.getD i.toNat ([] : List S77)
theorem at_L13 {w : World} {A : Option Addr} {n : Nat} {xs : List (List S77)} (h : Kd.C (Kd.slice 77 k77) w A n xs) (i : Int) (h0 : 0 ≤ i) (h1 : i < n) : ∃ ad A0 c0, A = some ad ∧ w.cell? (ad.add i.toNat) = some (.slice A0 (rd_L13 xs i).length c0) ∧ (rd_L13 xs i).length ≤ c0 ∧ k77.C w A0 (rd_L13 xs i).length (rd_L13 xs i) := by
  obtain ⟨ad, c, e, _, hK, hc0⟩ := Kd.C_get h ([] : List S77) i h0 h1
  have hc : ∀ j u, c[j]? = some u → w.cell? (ad.add (i.toNat * 1 + j)) = some u := hc0
  obtain ⟨A0, c0, rfl, l0, g0⟩ := hK
  exact ⟨ad, A0, c0, e, by have hq := hc 0 _ rfl; rwa [Nat.mul_one, Nat.add_zero] at hq, l0, g0⟩
structure S39 where
  f0 : (List S77)
def z39 : S39 := ⟨([] : List S77)⟩
def k39 : Kd S39 := Kd.iso (Kd.slice 77 k77) (fun x : S39 => x.f0)
theorem k39_open {w : World} {x : S39} {cs : List Value} (h : k39.K w x cs) : ∃ A0 c0, cs = [.slice A0 x.f0.length c0] ∧ x.f0.length ≤ c0 ∧ k77.C w A0 x.f0.length x.f0 := by
  obtain ⟨A0, c0, rfl, l0, g0⟩ := h
  exact ⟨A0, c0, rfl, l0, g0⟩
theorem k39_openM {w : World} {base : Nat} {ok : Nat → Prop} {x : S39} {cs : List Value} (h : k39.M w base ok x cs) : ∃ v0, cs = [v0] ∧ k77.R 77 w base ok v0 x.f0 := by
  obtain ⟨v0, rfl, g0⟩ := h
  exact ⟨v0, rfl, g0⟩
theorem k39_mk (w : World) (x : S39) {A0 : Option Addr} {c0 : Nat} (l0 : x.f0.length ≤ c0) (g0 : k77.C w A0 x.f0.length x.f0) : k39.K w x [.slice A0 x.f0.length c0] := ⟨A0, c0, rfl, l0, g0⟩
theorem k39_mkM (w : World) (base : Nat) (ok : Nat → Prop) (x : S39) {v0 : Value} (g0 : k77.R 77 w base ok v0 x.f0) : k39.M w base ok x [v0] := ⟨v0, rfl, g0⟩
def rd_T39 (xs : List S39) (i : Int) : S39 := xs.getD i.toNat z39
theorem at_T39 {w : World} {A : Option Addr} {n : Nat} {xs : List S39} (h : Kd.C k39 w A n xs) (i : Int) (h0 : 0 ≤ i) (h1 : i < n) : ∃ ad A0 c0, A = some ad ∧ w.cell? (ad.add i.toNat) = some (.slice A0 (rd_T39 xs i).f0.length c0) ∧ (rd_T39 xs i).f0.length ≤ c0 ∧ k77.C w A0 (rd_T39 xs i).f0.length (rd_T39 xs i).f0 := by
  obtain ⟨ad, c, e, _, hK, hc0⟩ := Kd.C_get h z39 i h0 h1
  have hc : ∀ j u, c[j]? = some u → w.cell? (ad.add (i.toNat * 1 + j)) = some u := hc0
  obtain ⟨A0, c0, rfl, l0, g0⟩ := k39_open hK
  exact ⟨ad, A0, c0, e, by have hq := hc 0 _ rfl; rwa [Nat.mul_one, Nat.add_zero] at hq, l0, g0⟩
def rd_L15 (xs : List (List S67)) (i : Int) : (List S67) := xs.getD i.toNat ([] : List S67)
theorem at_L15 {w : World} {A : Option Addr} {n : Nat} {xs : List (List S67)} (h : Kd.C (Kd.slice 67 k67) w A n xs) (i : Int) (h0 : 0 ≤ i) (h1 : i < n) : ∃ ad A0 c0, A = some ad ∧ w.cell? (ad.add i.toNat) = some (.slice A0 (rd_L15 xs i).length c0) ∧ (rd_L15 xs i).length ≤ c0 ∧ k67.C w A0 (rd_L15 xs i).length (rd_L15 xs i) := by
  obtain ⟨ad, c, e, _, hK, hc0⟩ := Kd.C_get h ([] : List S67) i h0 h1
  have hc : ∀ j u, c[j]? = some u → w.cell? (ad.add (i.toNat * 1 + j)) = some u := hc0
  obtain ⟨A0, c0, rfl, l0, g0⟩ := hK
  exact ⟨ad, A0, c0, e, by have hq := hc 0 _ rfl; rwa [Nat.mul_one, Nat.add_zero] at hq, l0, g0⟩
structure S24 where
  f0 : (List S67)
def z24 : S24 := ⟨([] : List S67)⟩
def k24 : Kd S24 := Kd.iso (Kd.slice 67 k67) (fun x : S24 => x.f0)
theorem k24_open {w : World} {x : S24} {cs : List Value} (h : k24.K w x cs) : ∃ A0 c0, cs = [.slice A0 x.f0.length c0] ∧ x.f0.length ≤ c0 ∧ k67.C w A0 x.f0.length x.f0 := by
  obtain ⟨A0, c0, rfl, l0, g0⟩ := h
  exact ⟨A0, c0, rfl, l0, g0⟩
theorem k24_openM {w : World} {base : Nat} {ok : Nat → Prop} {x : S24} {cs : List Value} (h : k24.M w base ok x cs) : ∃ v0, cs = [v0] ∧ k67.R 67 w base ok v0 x.f0 := by
  obtain ⟨v0, rfl, g0⟩ := h
  exact ⟨v0, rfl, g0⟩
theorem k24_mk (w : World) (x : S24) {A0 : Option Addr} {c0 : Nat} (l0 : x.f0.length ≤ c0) (g0 : k67.C w A0 x.f0.length x.f0) : k24.K w x [.slice A0 x.f0.length c0] := ⟨A0, c0, rfl, l0, g0⟩
theorem k24_mkM (w : World) (base : Nat) (ok : Nat → Prop) (x : S24) {v0 : Value} (g0 : k67.R 67 w base ok v0 x.f0) : k24.M w base ok x [v0] := ⟨v0, rfl, g0⟩
def rd_T24 (xs : List S24) (i : Int) : S24 := xs.getD i.toNat z24
theorem at_T24 {w : World} {A : Option Addr} {n : Nat} {xs : List S24} (h : Kd.C k24 w A n xs) (i : Int) (h0 : 0 ≤ i) (h1 : i < n) : ∃ ad A0 c0, A = some ad ∧ w.cell? (ad.add i.toNat) = some (.slice A0 (rd_T24 xs i).f0.length c0) ∧ (rd_T24 xs i).f0.length ≤ c0 ∧ k67.C w A0 (rd_T24 xs i).f0.length (rd_T24 xs i).f0 := by
  obtain ⟨ad, c, e, _, hK, hc0⟩ := Kd.C_get h z24 i h0 h1
  have hc : ∀ j u, c[j]? = some u → w.cell? (ad.add (i.toNat * 1 + j)) = some u := hc0
  obtain ⟨A0, c0, rfl, l0, g0⟩ := k24_open hK
  exact ⟨ad, A0, c0, e, by have hq := hc 0 _ rfl; rwa [Nat.mul_one, Nat.add_zero] at hq, l0, g0⟩
end Go.Proofs.Ytnnkedeohfbkeaa.P
namespace Go.Proofs.Ytnnkedeohfbkeaa.P
open Go.RowKit Go.Proofs.YtnnkedeohfbkeaaW.PrintWords Go.Proofs.YtnnkedeohfbkeaaW.PrintLast Go.Proofs.YtnnkedeohfbkeaaW.PrintMore
open Go.Proofs.YtnnkedeohfbkeaaW.PrintWords renaming blk_frozen → bF_, blk_cell → bC_, below_set → bS_, blk_below → bB_, below_step → bT_, pw_below_drewN → bN_, below_size → bZ_, below_drew1 → bD_, below_alloc → bA_, blk_far → bR_, gate_callee → gC_, gate_dst → gD_, box_event → bE_, blk_drew → b1_, blk_put → bP_, blk_drewN → b2_, blk_alloc → b3_, blk_lt → bL_, cell_far → cF_
open Go.Proofs.YtnnkedeohfbkeaaW.PrintLast renaming any_of → aO_, i64_w → i6_, i32_w → i3_, take_ofW → tW_
open Go.Proofs.YtnnkedeohfbkeaaW.PrintWords.Kd renaming R_below → kB_, R_mono → kM_, R_far → kF_, R_reads' → kR_, R_types → kT_, R_slice → kS_, R_celln → kC_, R_alloc → k1_, R_drewN → k2_, R_drew → k3_, C_below → k4_, R_lower → k5_, R_ne → k6_, own_blk → k7_
open Go.Proofs.YtnnkedeohfbkeaaW.PrintWords.LeO renaming none → l0_, bind → l1_, ite → l2_, refl → l3_
open World renaming block_lt_of_cell? → wB_
open _root_.Option renaming bind_eq_some_iff → oB_
open _root_.ByteArray renaming empty → eB_
open List renaming setIfInBounds_toArray → sA_, set_cons_zero → sB_, set_cons_succ → sC_, map_toArray → sD_, map_cons → sE_, map_nil → sF_, length_drop → sG_, length_take → sH_
open Bool renaming true → ty, false → fy
open Aside0 renaming mk → aM_
attribute [local go_sem] max2_int min2_int max_two min_two max_three min_three max_four min_four
def laws_eqNode.f (a0_0 : Int) (a0_1 : Int) (a0_2 : Bool) (a1_0 : Int) (a1_1 : Int) (a1_2 : Bool) : Option (Bool) := if a0_0 = a1_0 then (if a0_1 = a1_1 then (if (a0_2 != a1_2) = true then (some false) else (some true)) else (some false)) else (some false)
theorem laws_eqNode.calls (a0_0 : Int) (a0_1 : Int) (a0_2 : Bool) (a1_0 : Int) (a1_1 : Int) (a1_2 : Bool) (r : Bool) (w : World) (h : laws_eqNode.f a0_0 a0_1 a0_2 a1_0 a1_1 a1_2 = some r) :
  Calls Try.prog 41 #[.agg #[.int .i64 a0_0, .int .i64 a0_1, .bool a0_2], .agg #[.int .i64 a1_0, .int .i64 a1_1, .bool a1_2]] w fun e w' => e = .returned (.bool r) ∧ Below w.heap.size w w' := by
 have hu65 := Try.underlying65
 have HB := aM_ (Below.refl w.heap.size w)
 have H : (if a0_0 = a1_0 then (if a0_1 = a1_1 then (if (a0_2 != a1_2) = true then (some false) else (some true)) else (some false)) else (some false)) = some r := h
 clear h
 by_cases c3 : a0_0 = a1_0
 ·
  rw [if_pos c3] at H
  have c3b0 : (a0_0 == a1_0) = true := beq_iff_eq.mpr c3
  have c3b1 : (a0_0 != a1_0) = false := bne_eq_false_iff_eq.mpr c3
  clear c3
  by_cases c4 : a0_1 = a1_1
  ·
   rw [if_pos c4] at H
   have c4b0 : (a0_1 == a1_1) = true := beq_iff_eq.mpr c4
   have c4b1 : (a0_1 != a1_1) = false := bne_eq_false_iff_eq.mpr c4
   clear c4
   by_cases c5 : (a0_2 != a1_2) = true
   ·
    rw [if_pos c5] at H
    have c5b0 : (a0_2 != a1_2) = true := c5
    (try (have c5b1 : decide (a0_2 = a1_2) = false := by simpa using c5))
    (try (have c5b2 : (a0_2 == a1_2) = false := by simpa using c5))
    (try (have c5b3 : ¬ (a0_2 = a1_2) := by simpa using c5))
    clear c5
    obtain rfl := Option.some.inj H
    go_enter Try.func41, Try.ntmps41
    go_wp2_with (first | ((with_reducible refine gD_ (N := 2) rfl ?_); refine bE_ ?hg (N := 2) ?hd (cs := #[.int .i64 a0_0, .int .i64 a0_1, .bool a0_2]) (t := 65) ?hr ?_; (case hd => rfl); (case hg => rfl); (case hr => (go_simp; done)); intro gb388 hg w6 hbox hb; have BK388 := aM_ (hbox); have GW388 := aM_ ((by rw [hg]; exact (bZ_ HB.out) : w.heap.size ≤ gb388)); have GE388 := GW388; replace HB := aM_ (bT_ HB.out hb); clear hb hbox hg) | ((with_reducible refine gD_ (N := 3) rfl ?_); refine bE_ ?hg (N := 3) ?hd (cs := #[.int .i64 a1_0, .int .i64 a1_1, .bool a1_2]) (t := 65) ?hr ?_; (case hd => rfl); (case hg => rfl); (case hr => (go_simp; done)); intro gb389 hg w7 hbox hb; have BK389 := aM_ (hbox); have GW389 := aM_ ((by rw [hg]; exact (bZ_ HB.out) : w.heap.size ≤ gb389)); have GE389 := GW389; replace HB := aM_ (bT_ HB.out hb); have NB388_389 := aM_ ((by rw [hg]; exact Nat.ne_of_lt (bL_ BK388.out) : gb388 ≠ gb389)); have NB389_388 := aM_ NB388_389.out.symm; replace BK388 := aM_ (bB_ BK388.out hb); clear hb hbox hg; have hnb8 := NB388_389.out; have hnc8 := NB389_388.out; have hcz9_0 : w7.cell? ⟨gb388, 0, none⟩ = some (.int .i64 a0_0) := (bC_ BK388.out 0).trans rfl; have hcz9_1 : w7.cell? ⟨gb388, 1, none⟩ = some (.int .i64 a0_1) := (bC_ BK388.out 1).trans rfl; have hcz9_2 : w7.cell? ⟨gb388, 2, none⟩ = some (.bool a0_2) := (bC_ BK388.out 2).trans rfl; have hfz9_0 := bF_ BK388.out 0; have hfz9_1 := bF_ BK388.out 1; have hfz9_2 := bF_ BK388.out 2; have hcz10_0 : w7.cell? ⟨gb389, 0, none⟩ = some (.int .i64 a1_0) := (bC_ BK389.out 0).trans rfl; have hcz10_1 : w7.cell? ⟨gb389, 1, none⟩ = some (.int .i64 a1_1) := (bC_ BK389.out 1).trans rfl; have hcz10_2 : w7.cell? ⟨gb389, 2, none⟩ = some (.bool a1_2) := (bC_ BK389.out 2).trans rfl; have hfz10_0 := bF_ BK389.out 0; have hfz10_1 := bF_ BK389.out 1; have hfz10_2 := bF_ BK389.out 2))
    go_ret
    exact ⟨by rfl, by exact HB.out⟩
   ·
    rw [if_neg c5] at H
    have c5b0 : (a0_2 != a1_2) = false := by simpa using c5
    (try (have c5b1 : decide (a0_2 = a1_2) = true := by simpa using c5))
    (try (have c5b2 : (a0_2 == a1_2) = true := by simpa using c5))
    clear c5
    obtain rfl := Option.some.inj H
    go_enter Try.func41, Try.ntmps41
    go_wp2_with (first | ((with_reducible refine gD_ (N := 2) rfl ?_); refine bE_ ?hg (N := 2) ?hd (cs := #[.int .i64 a0_0, .int .i64 a0_1, .bool a0_2]) (t := 65) ?hr ?_; (case hd => rfl); (case hg => rfl); (case hr => (go_simp; done)); intro gb388 hg w11 hbox hb; have BK388 := aM_ (hbox); have GW388 := aM_ ((by rw [hg]; exact (bZ_ HB.out) : w.heap.size ≤ gb388)); have GE388 := GW388; replace HB := aM_ (bT_ HB.out hb); clear hb hbox hg) | ((with_reducible refine gD_ (N := 3) rfl ?_); refine bE_ ?hg (N := 3) ?hd (cs := #[.int .i64 a1_0, .int .i64 a1_1, .bool a1_2]) (t := 65) ?hr ?_; (case hd => rfl); (case hg => rfl); (case hr => (go_simp; done)); intro gb389 hg w12 hbox hb; have BK389 := aM_ (hbox); have GW389 := aM_ ((by rw [hg]; exact (bZ_ HB.out) : w.heap.size ≤ gb389)); have GE389 := GW389; replace HB := aM_ (bT_ HB.out hb); have NB388_389 := aM_ ((by rw [hg]; exact Nat.ne_of_lt (bL_ BK388.out) : gb388 ≠ gb389)); have NB389_388 := aM_ NB388_389.out.symm; replace BK388 := aM_ (bB_ BK388.out hb); clear hb hbox hg; have hnb13 := NB388_389.out; have hnc13 := NB389_388.out; have hcz14_0 : w12.cell? ⟨gb388, 0, none⟩ = some (.int .i64 a0_0) := (bC_ BK388.out 0).trans rfl; have hcz14_1 : w12.cell? ⟨gb388, 1, none⟩ = some (.int .i64 a0_1) := (bC_ BK388.out 1).trans rfl; have hcz14_2 : w12.cell? ⟨gb388, 2, none⟩ = some (.bool a0_2) := (bC_ BK388.out 2).trans rfl; have hfz14_0 := bF_ BK388.out 0; have hfz14_1 := bF_ BK388.out 1; have hfz14_2 := bF_ BK388.out 2; have hcz15_0 : w12.cell? ⟨gb389, 0, none⟩ = some (.int .i64 a1_0) := (bC_ BK389.out 0).trans rfl; have hcz15_1 : w12.cell? ⟨gb389, 1, none⟩ = some (.int .i64 a1_1) := (bC_ BK389.out 1).trans rfl; have hcz15_2 : w12.cell? ⟨gb389, 2, none⟩ = some (.bool a1_2) := (bC_ BK389.out 2).trans rfl; have hfz15_0 := bF_ BK389.out 0; have hfz15_1 := bF_ BK389.out 1; have hfz15_2 := bF_ BK389.out 2))
    go_ret
    exact ⟨by rfl, by exact HB.out⟩
  ·
   rw [if_neg c4] at H
   have c4b0 : (a0_1 == a1_1) = false := beq_eq_false_iff_ne.mpr c4
   have c4b1 : (a0_1 != a1_1) = true := bne_iff_ne.mpr c4
   obtain rfl := Option.some.inj H
   go_enter Try.func41, Try.ntmps41
   go_wp2_with (first | ((with_reducible refine gD_ (N := 2) rfl ?_); refine bE_ ?hg (N := 2) ?hd (cs := #[.int .i64 a0_0, .int .i64 a0_1, .bool a0_2]) (t := 65) ?hr ?_; (case hd => rfl); (case hg => rfl); (case hr => (go_simp; done)); intro gb388 hg w16 hbox hb; have BK388 := aM_ (hbox); have GW388 := aM_ ((by rw [hg]; exact (bZ_ HB.out) : w.heap.size ≤ gb388)); have GE388 := GW388; replace HB := aM_ (bT_ HB.out hb); clear hb hbox hg) | ((with_reducible refine gD_ (N := 3) rfl ?_); refine bE_ ?hg (N := 3) ?hd (cs := #[.int .i64 a1_0, .int .i64 a1_1, .bool a1_2]) (t := 65) ?hr ?_; (case hd => rfl); (case hg => rfl); (case hr => (go_simp; done)); intro gb389 hg w17 hbox hb; have BK389 := aM_ (hbox); have GW389 := aM_ ((by rw [hg]; exact (bZ_ HB.out) : w.heap.size ≤ gb389)); have GE389 := GW389; replace HB := aM_ (bT_ HB.out hb); have NB388_389 := aM_ ((by rw [hg]; exact Nat.ne_of_lt (bL_ BK388.out) : gb388 ≠ gb389)); have NB389_388 := aM_ NB388_389.out.symm; replace BK388 := aM_ (bB_ BK388.out hb); clear hb hbox hg; have hnb18 := NB388_389.out; have hnc18 := NB389_388.out; have hcz19_0 : w17.cell? ⟨gb388, 0, none⟩ = some (.int .i64 a0_0) := (bC_ BK388.out 0).trans rfl; have hcz19_1 : w17.cell? ⟨gb388, 1, none⟩ = some (.int .i64 a0_1) := (bC_ BK388.out 1).trans rfl; have hcz19_2 : w17.cell? ⟨gb388, 2, none⟩ = some (.bool a0_2) := (bC_ BK388.out 2).trans rfl; have hfz19_0 := bF_ BK388.out 0; have hfz19_1 := bF_ BK388.out 1; have hfz19_2 := bF_ BK388.out 2; have hcz20_0 : w17.cell? ⟨gb389, 0, none⟩ = some (.int .i64 a1_0) := (bC_ BK389.out 0).trans rfl; have hcz20_1 : w17.cell? ⟨gb389, 1, none⟩ = some (.int .i64 a1_1) := (bC_ BK389.out 1).trans rfl; have hcz20_2 : w17.cell? ⟨gb389, 2, none⟩ = some (.bool a1_2) := (bC_ BK389.out 2).trans rfl; have hfz20_0 := bF_ BK389.out 0; have hfz20_1 := bF_ BK389.out 1; have hfz20_2 := bF_ BK389.out 2))
   go_ret
   exact ⟨by rfl, by exact HB.out⟩
 ·
  rw [if_neg c3] at H
  have c3b0 : (a0_0 == a1_0) = false := beq_eq_false_iff_ne.mpr c3
  have c3b1 : (a0_0 != a1_0) = true := bne_iff_ne.mpr c3
  obtain rfl := Option.some.inj H
  go_enter Try.func41, Try.ntmps41
  go_wp2_with (first | ((with_reducible refine gD_ (N := 2) rfl ?_); refine bE_ ?hg (N := 2) ?hd (cs := #[.int .i64 a0_0, .int .i64 a0_1, .bool a0_2]) (t := 65) ?hr ?_; (case hd => rfl); (case hg => rfl); (case hr => (go_simp; done)); intro gb388 hg w21 hbox hb; have BK388 := aM_ (hbox); have GW388 := aM_ ((by rw [hg]; exact (bZ_ HB.out) : w.heap.size ≤ gb388)); have GE388 := GW388; replace HB := aM_ (bT_ HB.out hb); clear hb hbox hg) | ((with_reducible refine gD_ (N := 3) rfl ?_); refine bE_ ?hg (N := 3) ?hd (cs := #[.int .i64 a1_0, .int .i64 a1_1, .bool a1_2]) (t := 65) ?hr ?_; (case hd => rfl); (case hg => rfl); (case hr => (go_simp; done)); intro gb389 hg w22 hbox hb; have BK389 := aM_ (hbox); have GW389 := aM_ ((by rw [hg]; exact (bZ_ HB.out) : w.heap.size ≤ gb389)); have GE389 := GW389; replace HB := aM_ (bT_ HB.out hb); have NB388_389 := aM_ ((by rw [hg]; exact Nat.ne_of_lt (bL_ BK388.out) : gb388 ≠ gb389)); have NB389_388 := aM_ NB388_389.out.symm; replace BK388 := aM_ (bB_ BK388.out hb); clear hb hbox hg; have hnb23 := NB388_389.out; have hnc23 := NB389_388.out; have hcz24_0 : w22.cell? ⟨gb388, 0, none⟩ = some (.int .i64 a0_0) := (bC_ BK388.out 0).trans rfl; have hcz24_1 : w22.cell? ⟨gb388, 1, none⟩ = some (.int .i64 a0_1) := (bC_ BK388.out 1).trans rfl; have hcz24_2 : w22.cell? ⟨gb388, 2, none⟩ = some (.bool a0_2) := (bC_ BK388.out 2).trans rfl; have hfz24_0 := bF_ BK388.out 0; have hfz24_1 := bF_ BK388.out 1; have hfz24_2 := bF_ BK388.out 2; have hcz25_0 : w22.cell? ⟨gb389, 0, none⟩ = some (.int .i64 a1_0) := (bC_ BK389.out 0).trans rfl; have hcz25_1 : w22.cell? ⟨gb389, 1, none⟩ = some (.int .i64 a1_1) := (bC_ BK389.out 1).trans rfl; have hcz25_2 : w22.cell? ⟨gb389, 2, none⟩ = some (.bool a1_2) := (bC_ BK389.out 2).trans rfl; have hfz25_0 := bF_ BK389.out 0; have hfz25_1 := bF_ BK389.out 1; have hfz25_2 := bF_ BK389.out 2))
  go_ret
  exact ⟨by rfl, by exact HB.out⟩
def laws_eqNodeS.l0 : Nat → List (S65) → List (S65) → Int → Option (Bool)
 | 0, _, _, _ => none
 | k + 1, x0, x1, x5 => if x5 < (x0.length : Int) then (if 0 ≤ x5 then (if x5 < (x1.length : Int) then ((laws_eqNode.f ((rd_T65 x0 x5).f0) ((rd_T65 x0 x5).f1) ((rd_T65 x0 x5).f2) ((rd_T65 x1 x5).f0) ((rd_T65 x1 x5).f1) ((rd_T65 x1 x5).f2)).bind fun t392 => (if t392 = true then (laws_eqNodeS.l0 k x0 x1 (wrap64 (x5 + 1))) else (some false))) else (none)) else (none)) else (some true)
def laws_eqNodeS.f (k : Nat) (l0 : List (S65)) (l1 : List (S65)) : Option (Bool) := if (l0.length : Int) = (l1.length : Int) then (laws_eqNodeS.l0 k l0 l1 0) else (some false)
theorem laws_eqNodeS.mono_l : ∀ k, (∀ y0 y1 y2, LeO (laws_eqNodeS.l0 k y0 y1 y2) (laws_eqNodeS.l0 (k + 1) y0 y1 y2))
 | 0 => fun _ _ _ r h => by simp [laws_eqNodeS.l0] at h
 | k + 1 => by
  have ih0 := laws_eqNodeS.mono_l k
  ·
   intro y0 y1 y2
   unfold laws_eqNodeS.l0
   repeat' first
   | (with_reducible exact ih0 _ _ _)
   | (with_reducible exact l3_ _)
   | (with_reducible exact l0_ _)
   | (with_reducible refine l2_ ?_ ?_)
   | (with_reducible refine l1_ ?_ (fun _ => ?_))
   | exact ih0 _ _ _
   | exact l0_ _
   | refine l2_ ?_ ?_
   | refine l1_ ?_ (fun _ => ?_)
theorem laws_eqNodeS.mono : ∀ a0 a1 k, LeO (laws_eqNodeS.f k a0 a1) (laws_eqNodeS.f (k + 1) a0 a1) := by
 intro a0 a1 k
 have ih0 := laws_eqNodeS.mono_l k
 unfold laws_eqNodeS.f
 repeat' first
   | (with_reducible exact ih0 _ _ _)
   | (with_reducible exact l3_ _)
   | (with_reducible exact l0_ _)
   | (with_reducible refine l2_ ?_ ?_)
   | (with_reducible refine l1_ ?_ (fun _ => ?_))
   | exact ih0 _ _ _
   | exact l0_ _
   | refine l2_ ?_ ?_
   | refine l1_ ?_ (fun _ => ?_)
def laws_eqNodeS.T6 : Bool × List (List Nat × List Nat) := (true, [([], []), ([], []), ([0, 1], [0, 1]), ([2], [2]), ([], []), ([], []), ([4, 5], [4, 5]), ([6], [6]), ([3, 7], [3, 7]), ([8], [8])])
def laws_eqNodeS.B6 : List Nat := [0, 0, 3, 7, 0, 0, 48, 112, 255, 511]
theorem laws_eqNodeS.tab6 : rtab .any (opsOf Try.f25 6) = laws_eqNodeS.T6 := by kernel_rfl
theorem laws_eqNodeS.bits6 : waitsOk laws_eqNodeS.T6.2 laws_eqNodeS.B6 = true := by kernel_rfl
theorem laws_eqNodeS.calls (k : Nat) (A0 : Option Addr) (c0 : Nat) (l0 : List (S65)) (A1 : Option Addr) (c1 : Nat) (l1 : List (S65)) (r : Bool) (w : World) (hr0 : Kd.C k65 w A0 l0.length l0) (hc0 : l0.length ≤ c0) (hr1 : Kd.C k65 w A1 l1.length l1) (hc1 : l1.length ≤ c1) (h : laws_eqNodeS.f k l0 l1 = some r) :
  Calls Try.prog 25 #[.slice A0 l0.length c0, .slice A1 l1.length c1] w fun e w' => e = .returned (.bool r) ∧ Below w.heap.size w w' := by
 have hu65 := Try.underlying65
 have HR0 := aM_ hr0
 have HC0 := aM_ hc0
 clear hr0 hc0
 have HR1 := aM_ hr1
 have HC1 := aM_ hc1
 clear hr1 hc1
 have HB := aM_ (Below.refl w.heap.size w)
 have H : (if (l0.length : Int) = (l1.length : Int) then (laws_eqNodeS.l0 k l0 l1 0) else (some false)) = some r := h
 clear h
 by_cases c3 : (l0.length : Int) = (l1.length : Int)
 ·
  rw [if_pos c3] at H
  have c3b0 : ((l0.length : Int) == (l1.length : Int)) = true := beq_iff_eq.mpr c3
  have c3b1 : ((l0.length : Int) != (l1.length : Int)) = false := bne_eq_false_iff_eq.mpr c3
  have c3b2 : (l0.length == l1.length) = true := by first | simpa using c3 | (simp at c3 ⊢; omega)
  clear c3
  have H' := aM_ H
  clear H
  go_enter Try.func25, Try.ntmps25
  go_wp2
  go_loopg [5] k (fun kq v5 w' => ∃ (x5_1 : Int), v5 = .int .i64 x5_1 ∧ Aside0 (laws_eqNodeS.l0 kq l0 l1 x5_1 = some r) ∧ Aside0 (kq ≤ k) ∧ Aside0 (Below w.heap.size w w'))
  case atStart => exact ⟨(0), (by rfl), H', ⟨Nat.le_refl _⟩, ⟨HB.out⟩⟩
  case round =>
   clear H'
   try clear p2
   try clear c3b0
   try clear c3b1
   try clear c3b2
   obtain ⟨x5_1, rfl, HA, HK1, HB⟩ := hrel
   cases gk with
   | zero => exact absurd HA.out (by simp [laws_eqNodeS.l0])
   | succ k1 =>
    have H := HA.out
    clear HA
    simp only [laws_eqNodeS.l0] at H
    by_cases c4 : x5_1 < (l0.length : Int)
    ·
     rw [if_pos c4] at H
     have c4b0 := decide_eq_true c4
     clear c4
     by_cases c5 : 0 ≤ x5_1
     ·
      rw [if_pos c5] at H
      have c5b0 := decide_eq_true c5
      clear c5
      by_cases c6 : x5_1 < (l1.length : Int)
      ·
       rw [if_pos c6] at H
       have c6b0 := decide_eq_true c6
       clear c6
       replace H := oB_.mp H
       obtain ⟨t392, A70, H⟩ := H
       try dsimp only at H
       have A7 := aM_ A70
       clear A70
       by_cases c8 : t392 = true
       ·
        subst c8
        rw [if_pos rfl] at H
        have H' := aM_ H
        clear H
        try go_wp2
        have n0_ := aM_ (bD_ HB.out)
        clear HB
        have HB := n0_
        clear n0_
        have p390 : 0 ≤ (x5_1 : Int) := of_decide_eq_true (by (with_reducible assumption))
        have q390 : x5_1 < (l0.length : Int) := of_decide_eq_true (by (with_reducible assumption))
        obtain ⟨ad390, e390, hx390_0, hx390_1, hx390_2⟩ := at_T65 HR0.out x5_1 p390 q390
        have hw390_2 := hx390_2
        have hw390_1 := hx390_1
        have hw390_0 := hx390_0
        cases e390
        replace hx390_0 := (HB.out.cell (wB_ w _ hx390_0)).trans hx390_0
        replace hx390_1 := (HB.out.cell (wB_ w _ hx390_1)).trans hx390_1
        replace hx390_2 := (HB.out.cell (wB_ w _ hx390_2)).trans hx390_2
        replace p390 := eq_true p390
        replace q390 := eq_true q390
        have p391 : 0 ≤ (x5_1 : Int) := of_decide_eq_true (by (with_reducible assumption))
        have q391 : x5_1 < (l1.length : Int) := of_decide_eq_true (by (with_reducible assumption))
        obtain ⟨ad391, e391, hx391_0, hx391_1, hx391_2⟩ := at_T65 HR1.out x5_1 p391 q391
        have hw391_2 := hx391_2
        have hw391_1 := hx391_1
        have hw391_0 := hx391_0
        cases e391
        replace hx391_0 := (HB.out.cell (wB_ w _ hx391_0)).trans hx391_0
        replace hx391_1 := (HB.out.cell (wB_ w _ hx391_1)).trans hx391_1
        replace hx391_2 := (HB.out.cell (wB_ w _ hx391_2)).trans hx391_2
        replace p391 := eq_true p391
        replace q391 := eq_true q391
        refine start_ (n := 10) (S := fun w' => w'.cell? (ad390.add ((x5_1).toNat * 3)) = some (.int .i64 ((rd_T65 l0 x5_1).f0)) ∧ w'.cell? ⟨(ad390.add ((x5_1).toNat * 3)).block, (ad390.add ((x5_1).toNat * 3)).off + 1, none⟩ = some (.int .i64 ((rd_T65 l0 x5_1).f1)) ∧ w'.cell? ⟨(ad390.add ((x5_1).toNat * 3)).block, (ad390.add ((x5_1).toNat * 3)).off + 2, none⟩ = some (.bool ((rd_T65 l0 x5_1).f2)) ∧ w'.cell? (ad391.add ((x5_1).toNat * 3)) = some (.int .i64 ((rd_T65 l1 x5_1).f0)) ∧ w'.cell? ⟨(ad391.add ((x5_1).toNat * 3)).block, (ad391.add ((x5_1).toNat * 3)).off + 1, none⟩ = some (.int .i64 ((rd_T65 l1 x5_1).f1)) ∧ w'.cell? ⟨(ad391.add ((x5_1).toNat * 3)).block, (ad391.add ((x5_1).toNat * 3)).off + 2, none⟩ = some (.bool ((rd_T65 l1 x5_1).f2))) (ds := []) #[fy, fy, fy, fy, fy, fy, fy, fy, fy, fy] (by kernel_rfl) rfl rfl ⟨((HB.out.cell (wB_ w _ hw390_0)).trans hw390_0), ((HB.out.cell (wB_ w _ hw390_1)).trans hw390_1), ((HB.out.cell (wB_ w _ hw390_2)).trans hw390_2), ((HB.out.cell (wB_ w _ hw391_0)).trans hw391_0), ((HB.out.cell (wB_ w _ hw391_1)).trans hw391_1), ((HB.out.cell (wB_ w _ hw391_2)).trans hw391_2)⟩ (fun hHeld => ?_); refine with_tabW laws_eqNodeS.tab6 laws_eqNodeS.bits6 (fun HT_ HW_ => ?_)
        generalize wr.drew = w9 at HB hx390_0 hx390_1 hx390_2 hx391_0 hx391_1 hx391_2 hHeld ⊢
        refine pure_ (i := 0) (N := some 17) (v := ?_) (a' := ?_) #[ty, fy, fy, fy, fy, fy, fy, fy, fy, fy] rfl rfl (aO_ HT_.out (by kernel_rfl)) (fun _ _ _ h => h) (Or.inl ⟨by rfl, ?_⟩) ?_ ?_; rotate_left; (intro w'; go_simp; with_reducible rfl); rotate_left; (simp only [Act.put, sA_, sB_, sC_, i6_, i3_]; rfl)
        refine pure_ (i := 1) (N := some 18) (v := ?_) (a' := ?_) #[ty, ty, fy, fy, fy, fy, fy, fy, fy, fy] rfl rfl (aO_ HT_.out (by kernel_rfl)) (fun _ _ _ h => h) (Or.inl ⟨by rfl, ?_⟩) ?_ ?_; rotate_left; (intro w'; go_simp; with_reducible rfl); rotate_left; (simp only [Act.put, sA_, sB_, sC_, i6_, i3_]; rfl)
        refine pure_ (i := 2) (N := some 19) (v := ?_) (a' := ?_) #[ty, ty, ty, fy, fy, fy, fy, fy, fy, fy] rfl rfl (aO_ HT_.out (by kernel_rfl)) (fun _ _ _ h => h) (Or.inl ⟨by rfl, ?_⟩) ?_ ?_; rotate_left; (intro w'; go_simp; with_reducible rfl); rotate_left; (simp only [Act.put, sA_, sB_, sC_, i6_, i3_]; rfl)
        refine pure_ (i := 4) (N := some 21) (v := ?_) (a' := ?_) #[ty, ty, ty, fy, ty, fy, fy, fy, fy, fy] rfl rfl (aO_ HT_.out (by kernel_rfl)) (fun _ _ _ h => h) (Or.inl ⟨by rfl, ?_⟩) ?_ ?_; rotate_left; (intro w'; go_simp; with_reducible rfl); rotate_left; (simp only [Act.put, sA_, sB_, sC_, i6_, i3_]; rfl)
        refine pure_ (i := 5) (N := some 22) (v := ?_) (a' := ?_) #[ty, ty, ty, fy, ty, ty, fy, fy, fy, fy] rfl rfl (aO_ HT_.out (by kernel_rfl)) (fun _ _ _ h => h) (Or.inl ⟨by rfl, ?_⟩) ?_ ?_; rotate_left; (intro w'; go_simp; with_reducible rfl); rotate_left; (simp only [Act.put, sA_, sB_, sC_, i6_, i3_]; rfl)
        refine pure_ (i := 6) (N := some 23) (v := ?_) (a' := ?_) #[ty, ty, ty, fy, ty, ty, ty, fy, fy, fy] rfl rfl (aO_ HT_.out (by kernel_rfl)) (fun _ _ _ h => h) (Or.inl ⟨by rfl, ?_⟩) ?_ ?_; rotate_left; (intro w'; go_simp; with_reducible rfl); rotate_left; (simp only [Act.put, sA_, sB_, sC_, i6_, i3_]; rfl)
        refine take_ (i := 3) (N := some 20) (v := ?_) (a' := ?_) #[ty, ty, ty, ty, ty, ty, ty, fy, fy, fy] rfl rfl (tW_ HT_.out HW_.out (by kernel_rfl)) (fun _ _ _ h => h) (Or.inl ⟨by rfl, ?_⟩) hHeld ?_ ?_; rotate_left; (rintro w' ⟨s0, s1, s2, s3, s4, s5⟩; go_simp; with_reducible rfl); rotate_left; (simp only [Act.put, sA_, sB_, sC_, i6_, i3_]; rfl)
        refine take_ (i := 7) (N := some 24) (v := ?_) (a' := ?_) #[ty, ty, ty, ty, ty, ty, ty, ty, fy, fy] rfl rfl (tW_ HT_.out HW_.out (by kernel_rfl)) (fun _ _ _ h => h) (Or.inl ⟨by rfl, ?_⟩) hHeld ?_ ?_; rotate_left; (rintro w' ⟨s0, s1, s2, s3, s4, s5⟩; go_simp; with_reducible rfl); rotate_left; (simp only [Act.put, sA_, sB_, sC_, i6_, i3_]; rfl)
        refine one_ (i := 8) (N := some 25) #[ty, ty, ty, ty, ty, ty, ty, ty, ty, fy] rfl rfl (one_of HT_.out (by kernel_rfl)) (by decide) (fun K hK => ?_)
        refine goes_ Try.func41 (by kernel_rfl) rfl #[.agg #[.int .i64 ((rd_T65 l0 x5_1).f0), .int .i64 ((rd_T65 l0 x5_1).f1), .bool ((rd_T65 l0 x5_1).f2)], .agg #[.int .i64 ((rd_T65 l1 x5_1).f0), .int .i64 ((rd_T65 l1 x5_1).f1), .bool ((rd_T65 l1 x5_1).f2)]] (by rfl) rfl rfl (by (try simp only [sD_, sE_, sF_]); rfl) ?_
        with_reducible refine (laws_eqNode.calls ((rd_T65 l0 x5_1).f0) ((rd_T65 l0 x5_1).f1) ((rd_T65 l0 x5_1).f2) ((rd_T65 l1 x5_1).f0) ((rd_T65 l1 x5_1).f1) ((rd_T65 l1 x5_1).f2) true _ A7.out).mono ?_
        rintro e w10 ⟨rfl, hb⟩
        refine ⟨_, rfl, ?_⟩
        have n0_ := aM_ (bT_ HB.out hb)
        clear HB
        have HB := n0_
        clear n0_
        (try clear hb)
        refine hK.out _ _ ⟨((HB.out.cell (wB_ w _ hw390_0)).trans hw390_0), ((HB.out.cell (wB_ w _ hw390_1)).trans hw390_1), ((HB.out.cell (wB_ w _ hw390_2)).trans hw390_2), ((HB.out.cell (wB_ w _ hw391_0)).trans hw391_0), ((HB.out.cell (wB_ w _ hw391_1)).trans hw391_1), ((HB.out.cell (wB_ w _ hw391_2)).trans hw391_2)⟩ (fun hHeld => ?_)
        clear hK K
        refine norm_ (a' := ?_) ?_ ?_; rotate_left; (show Act.put _ (some 25) _ = _; simp only [Act.put, sA_, sB_, sC_, i6_, i3_]; rfl)
        refine pure_ (i := 9) (N := some 26) (v := ?_) (a' := ?_) #[ty, ty, ty, ty, ty, ty, ty, ty, ty, ty] rfl rfl (aO_ HT_.out (by kernel_rfl)) (fun _ _ _ h => h) (Or.inl ⟨by rfl, ?_⟩) ?_ ?_; rotate_left; (intro w'; go_simp; with_reducible rfl); rotate_left; (simp only [Act.put, sA_, sB_, sC_, i6_, i3_]; rfl)
        refine done_ (done_of HT_.out (by kernel_rfl)) ?_
        try go_wp2
        go_roundg k1
        case measure => have := HK1.out; omega
        case rel => exact ⟨(wrap64 (x5_1 + 1)), (by rfl), H', ⟨by have := HK1.out; omega⟩, ⟨HB.out⟩⟩
       ·
        replace c8 := Bool.eq_false_iff.mpr c8
        subst c8
        have H1 : (some false) = some r := by rw [if_neg (show ¬ (false = true) by decide)] at H; exact H
        clear H
        have H := H1
        clear H1
        obtain rfl := Option.some.inj H
        try go_wp2
        have n0_ := aM_ (bD_ HB.out)
        clear HB
        have HB := n0_
        clear n0_
        have p390 : 0 ≤ (x5_1 : Int) := of_decide_eq_true (by (with_reducible assumption))
        have q390 : x5_1 < (l0.length : Int) := of_decide_eq_true (by (with_reducible assumption))
        obtain ⟨ad390, e390, hx390_0, hx390_1, hx390_2⟩ := at_T65 HR0.out x5_1 p390 q390
        have hw390_2 := hx390_2
        have hw390_1 := hx390_1
        have hw390_0 := hx390_0
        cases e390
        replace hx390_0 := (HB.out.cell (wB_ w _ hx390_0)).trans hx390_0
        replace hx390_1 := (HB.out.cell (wB_ w _ hx390_1)).trans hx390_1
        replace hx390_2 := (HB.out.cell (wB_ w _ hx390_2)).trans hx390_2
        replace p390 := eq_true p390
        replace q390 := eq_true q390
        have p391 : 0 ≤ (x5_1 : Int) := of_decide_eq_true (by (with_reducible assumption))
        have q391 : x5_1 < (l1.length : Int) := of_decide_eq_true (by (with_reducible assumption))
        obtain ⟨ad391, e391, hx391_0, hx391_1, hx391_2⟩ := at_T65 HR1.out x5_1 p391 q391
        have hw391_2 := hx391_2
        have hw391_1 := hx391_1
        have hw391_0 := hx391_0
        cases e391
        replace hx391_0 := (HB.out.cell (wB_ w _ hx391_0)).trans hx391_0
        replace hx391_1 := (HB.out.cell (wB_ w _ hx391_1)).trans hx391_1
        replace hx391_2 := (HB.out.cell (wB_ w _ hx391_2)).trans hx391_2
        replace p391 := eq_true p391
        replace q391 := eq_true q391
        refine start_ (n := 10) (S := fun w' => w'.cell? (ad390.add ((x5_1).toNat * 3)) = some (.int .i64 ((rd_T65 l0 x5_1).f0)) ∧ w'.cell? ⟨(ad390.add ((x5_1).toNat * 3)).block, (ad390.add ((x5_1).toNat * 3)).off + 1, none⟩ = some (.int .i64 ((rd_T65 l0 x5_1).f1)) ∧ w'.cell? ⟨(ad390.add ((x5_1).toNat * 3)).block, (ad390.add ((x5_1).toNat * 3)).off + 2, none⟩ = some (.bool ((rd_T65 l0 x5_1).f2)) ∧ w'.cell? (ad391.add ((x5_1).toNat * 3)) = some (.int .i64 ((rd_T65 l1 x5_1).f0)) ∧ w'.cell? ⟨(ad391.add ((x5_1).toNat * 3)).block, (ad391.add ((x5_1).toNat * 3)).off + 1, none⟩ = some (.int .i64 ((rd_T65 l1 x5_1).f1)) ∧ w'.cell? ⟨(ad391.add ((x5_1).toNat * 3)).block, (ad391.add ((x5_1).toNat * 3)).off + 2, none⟩ = some (.bool ((rd_T65 l1 x5_1).f2))) (ds := []) #[fy, fy, fy, fy, fy, fy, fy, fy, fy, fy] (by kernel_rfl) rfl rfl ⟨((HB.out.cell (wB_ w _ hw390_0)).trans hw390_0), ((HB.out.cell (wB_ w _ hw390_1)).trans hw390_1), ((HB.out.cell (wB_ w _ hw390_2)).trans hw390_2), ((HB.out.cell (wB_ w _ hw391_0)).trans hw391_0), ((HB.out.cell (wB_ w _ hw391_1)).trans hw391_1), ((HB.out.cell (wB_ w _ hw391_2)).trans hw391_2)⟩ (fun hHeld => ?_); refine with_tabW laws_eqNodeS.tab6 laws_eqNodeS.bits6 (fun HT_ HW_ => ?_)
        generalize wr.drew = w11 at HB hx390_0 hx390_1 hx390_2 hx391_0 hx391_1 hx391_2 hHeld ⊢
        refine pure_ (i := 0) (N := some 17) (v := ?_) (a' := ?_) #[ty, fy, fy, fy, fy, fy, fy, fy, fy, fy] rfl rfl (aO_ HT_.out (by kernel_rfl)) (fun _ _ _ h => h) (Or.inl ⟨by rfl, ?_⟩) ?_ ?_; rotate_left; (intro w'; go_simp; with_reducible rfl); rotate_left; (simp only [Act.put, sA_, sB_, sC_, i6_, i3_]; rfl)
        refine pure_ (i := 1) (N := some 18) (v := ?_) (a' := ?_) #[ty, ty, fy, fy, fy, fy, fy, fy, fy, fy] rfl rfl (aO_ HT_.out (by kernel_rfl)) (fun _ _ _ h => h) (Or.inl ⟨by rfl, ?_⟩) ?_ ?_; rotate_left; (intro w'; go_simp; with_reducible rfl); rotate_left; (simp only [Act.put, sA_, sB_, sC_, i6_, i3_]; rfl)
        refine pure_ (i := 2) (N := some 19) (v := ?_) (a' := ?_) #[ty, ty, ty, fy, fy, fy, fy, fy, fy, fy] rfl rfl (aO_ HT_.out (by kernel_rfl)) (fun _ _ _ h => h) (Or.inl ⟨by rfl, ?_⟩) ?_ ?_; rotate_left; (intro w'; go_simp; with_reducible rfl); rotate_left; (simp only [Act.put, sA_, sB_, sC_, i6_, i3_]; rfl)
        refine pure_ (i := 4) (N := some 21) (v := ?_) (a' := ?_) #[ty, ty, ty, fy, ty, fy, fy, fy, fy, fy] rfl rfl (aO_ HT_.out (by kernel_rfl)) (fun _ _ _ h => h) (Or.inl ⟨by rfl, ?_⟩) ?_ ?_; rotate_left; (intro w'; go_simp; with_reducible rfl); rotate_left; (simp only [Act.put, sA_, sB_, sC_, i6_, i3_]; rfl)
        refine pure_ (i := 5) (N := some 22) (v := ?_) (a' := ?_) #[ty, ty, ty, fy, ty, ty, fy, fy, fy, fy] rfl rfl (aO_ HT_.out (by kernel_rfl)) (fun _ _ _ h => h) (Or.inl ⟨by rfl, ?_⟩) ?_ ?_; rotate_left; (intro w'; go_simp; with_reducible rfl); rotate_left; (simp only [Act.put, sA_, sB_, sC_, i6_, i3_]; rfl)
        refine pure_ (i := 6) (N := some 23) (v := ?_) (a' := ?_) #[ty, ty, ty, fy, ty, ty, ty, fy, fy, fy] rfl rfl (aO_ HT_.out (by kernel_rfl)) (fun _ _ _ h => h) (Or.inl ⟨by rfl, ?_⟩) ?_ ?_; rotate_left; (intro w'; go_simp; with_reducible rfl); rotate_left; (simp only [Act.put, sA_, sB_, sC_, i6_, i3_]; rfl)
        refine take_ (i := 3) (N := some 20) (v := ?_) (a' := ?_) #[ty, ty, ty, ty, ty, ty, ty, fy, fy, fy] rfl rfl (tW_ HT_.out HW_.out (by kernel_rfl)) (fun _ _ _ h => h) (Or.inl ⟨by rfl, ?_⟩) hHeld ?_ ?_; rotate_left; (rintro w' ⟨s0, s1, s2, s3, s4, s5⟩; go_simp; with_reducible rfl); rotate_left; (simp only [Act.put, sA_, sB_, sC_, i6_, i3_]; rfl)
        refine take_ (i := 7) (N := some 24) (v := ?_) (a' := ?_) #[ty, ty, ty, ty, ty, ty, ty, ty, fy, fy] rfl rfl (tW_ HT_.out HW_.out (by kernel_rfl)) (fun _ _ _ h => h) (Or.inl ⟨by rfl, ?_⟩) hHeld ?_ ?_; rotate_left; (rintro w' ⟨s0, s1, s2, s3, s4, s5⟩; go_simp; with_reducible rfl); rotate_left; (simp only [Act.put, sA_, sB_, sC_, i6_, i3_]; rfl)
        refine one_ (i := 8) (N := some 25) #[ty, ty, ty, ty, ty, ty, ty, ty, ty, fy] rfl rfl (one_of HT_.out (by kernel_rfl)) (by decide) (fun K hK => ?_)
        refine goes_ Try.func41 (by kernel_rfl) rfl #[.agg #[.int .i64 ((rd_T65 l0 x5_1).f0), .int .i64 ((rd_T65 l0 x5_1).f1), .bool ((rd_T65 l0 x5_1).f2)], .agg #[.int .i64 ((rd_T65 l1 x5_1).f0), .int .i64 ((rd_T65 l1 x5_1).f1), .bool ((rd_T65 l1 x5_1).f2)]] (by rfl) rfl rfl (by (try simp only [sD_, sE_, sF_]); rfl) ?_
        with_reducible refine (laws_eqNode.calls ((rd_T65 l0 x5_1).f0) ((rd_T65 l0 x5_1).f1) ((rd_T65 l0 x5_1).f2) ((rd_T65 l1 x5_1).f0) ((rd_T65 l1 x5_1).f1) ((rd_T65 l1 x5_1).f2) false _ A7.out).mono ?_
        rintro e w12 ⟨rfl, hb⟩
        refine ⟨_, rfl, ?_⟩
        have n0_ := aM_ (bT_ HB.out hb)
        clear HB
        have HB := n0_
        clear n0_
        (try clear hb)
        refine hK.out _ _ ⟨((HB.out.cell (wB_ w _ hw390_0)).trans hw390_0), ((HB.out.cell (wB_ w _ hw390_1)).trans hw390_1), ((HB.out.cell (wB_ w _ hw390_2)).trans hw390_2), ((HB.out.cell (wB_ w _ hw391_0)).trans hw391_0), ((HB.out.cell (wB_ w _ hw391_1)).trans hw391_1), ((HB.out.cell (wB_ w _ hw391_2)).trans hw391_2)⟩ (fun hHeld => ?_)
        clear hK K
        refine norm_ (a' := ?_) ?_ ?_; rotate_left; (show Act.put _ (some 25) _ = _; simp only [Act.put, sA_, sB_, sC_, i6_, i3_]; rfl)
        refine pure_ (i := 9) (N := some 26) (v := ?_) (a' := ?_) #[ty, ty, ty, ty, ty, ty, ty, ty, ty, ty] rfl rfl (aO_ HT_.out (by kernel_rfl)) (fun _ _ _ h => h) (Or.inl ⟨by rfl, ?_⟩) ?_ ?_; rotate_left; (intro w'; go_simp; with_reducible rfl); rotate_left; (simp only [Act.put, sA_, sB_, sC_, i6_, i3_]; rfl)
        refine done_ (done_of HT_.out (by kernel_rfl)) ?_
        try go_wp2
        go_ret
        exact ⟨by rfl, by exact HB.out⟩
      ·
       rw [if_neg c6] at H
       exact absurd H (by simp)
     ·
      rw [if_neg c5] at H
      exact absurd H (by simp)
    ·
     rw [if_neg c4] at H
     have c4b0 := decide_eq_false c4
     clear c4
     obtain rfl := Option.some.inj H
     go_wp2
     go_ret
     exact ⟨by rfl, by exact HB.out⟩
 ·
  rw [if_neg c3] at H
  have c3b0 : ((l0.length : Int) == (l1.length : Int)) = false := beq_eq_false_iff_ne.mpr c3
  have c3b1 : ((l0.length : Int) != (l1.length : Int)) = true := bne_iff_ne.mpr c3
  have c3b2 : (l0.length == l1.length) = false := by first | simpa using c3 | (simp at c3 ⊢; omega)
  obtain rfl := Option.some.inj H
  go_enter Try.func25, Try.ntmps25
  go_wp2
  go_ret
  exact ⟨by rfl, by exact HB.out⟩
def laws_eqTrie.f (k : Nat) (l0_0 : List (S65)) (l1_0 : List (S65)) : Option (Bool) := (laws_eqNodeS.f k l0_0 l1_0).bind fun t395 => (if t395 = true then (some true) else (some false))
theorem laws_eqTrie.mono : ∀ a0 a1 k, LeO (laws_eqTrie.f k a0 a1) (laws_eqTrie.f (k + 1) a0 a1) := by
 intro a0 a1 k
 unfold laws_eqTrie.f
 repeat' first
   | (with_reducible exact laws_eqNodeS.mono _ _ _)
   | (with_reducible exact l3_ _)
   | (with_reducible exact l0_ _)
   | (with_reducible refine l2_ ?_ ?_)
   | (with_reducible refine l1_ ?_ (fun _ => ?_))
   | exact laws_eqNodeS.mono _ _ _
   | exact l0_ _
   | refine l2_ ?_ ?_
   | refine l1_ ?_ (fun _ => ?_)
theorem laws_eqTrie.calls (k : Nat) (A0_0 : Option Addr) (c0_0 : Nat) (l0_0 : List (S65)) (A1_0 : Option Addr) (c1_0 : Nat) (l1_0 : List (S65)) (r : Bool) (w : World) (hr0_0 : Kd.C k65 w A0_0 l0_0.length l0_0) (hc0_0 : l0_0.length ≤ c0_0) (hr1_0 : Kd.C k65 w A1_0 l1_0.length l1_0) (hc1_0 : l1_0.length ≤ c1_0) (h : laws_eqTrie.f k l0_0 l1_0 = some r) :
  Calls Try.prog 10 #[.agg #[.slice A0_0 l0_0.length c0_0], .agg #[.slice A1_0 l1_0.length c1_0]] w fun e w' => e = .returned (.bool r) ∧ Below w.heap.size w w' := by
 have hu30 := Try.underlying30
 have HR0_0 := aM_ hr0_0
 have HC0_0 := aM_ hc0_0
 clear hr0_0 hc0_0
 have HR1_0 := aM_ hr1_0
 have HC1_0 := aM_ hc1_0
 clear hr1_0 hc1_0
 have HB := aM_ (Below.refl w.heap.size w)
 have H : ((laws_eqNodeS.f k l0_0 l1_0).bind fun t395 => (if t395 = true then (some true) else (some false))) = some r := h
 clear h
 replace H := oB_.mp H
 obtain ⟨t395, A30, H⟩ := H
 try dsimp only at H
 have A3 := aM_ A30
 clear A30
 by_cases c4 : t395 = true
 ·
  subst c4
  rw [if_pos rfl] at H
  obtain rfl := Option.some.inj H
  go_enter Try.func10, Try.ntmps10
  go_wp2_with (first | ((with_reducible refine gD_ (N := 2) rfl ?_); refine bE_ ?hg (N := 2) ?hd (cs := #[.slice A0_0 l0_0.length c0_0]) (t := 30) ?hr ?_; (case hd => rfl); (case hg => rfl); (case hr => (go_simp; done)); intro gb393 hg w5 hbox hb; have BK393 := aM_ (hbox); have GW393 := aM_ ((by rw [hg]; exact (bZ_ HB.out) : w.heap.size ≤ gb393)); have GE393 := GW393; replace HB := aM_ (bT_ HB.out hb); clear hb hbox hg) | ((with_reducible refine gD_ (N := 3) rfl ?_); refine bE_ ?hg (N := 3) ?hd (cs := #[.slice A1_0 l1_0.length c1_0]) (t := 30) ?hr ?_; (case hd => rfl); (case hg => rfl); (case hr => (go_simp; done)); intro gb394 hg w6 hbox hb; have BK394 := aM_ (hbox); have GW394 := aM_ ((by rw [hg]; exact (bZ_ HB.out) : w.heap.size ≤ gb394)); have GE394 := GW394; replace HB := aM_ (bT_ HB.out hb); have NB393_394 := aM_ ((by rw [hg]; exact Nat.ne_of_lt (bL_ BK393.out) : gb393 ≠ gb394)); have NB394_393 := aM_ NB393_394.out.symm; replace BK393 := aM_ (bB_ BK393.out hb); clear hb hbox hg; have hnb7 := NB393_394.out; have hnc7 := NB394_393.out; have hcz8_0 : w6.cell? ⟨gb393, 0, none⟩ = some (.slice A0_0 l0_0.length c0_0) := (bC_ BK393.out 0).trans rfl; have hfz8_0 := bF_ BK393.out 0; have hcz9_0 : w6.cell? ⟨gb394, 0, none⟩ = some (.slice A1_0 l1_0.length c1_0) := (bC_ BK394.out 0).trans rfl; have hfz9_0 := bF_ BK394.out 0) | ((with_reducible refine gC_ (f := 25) rfl ?_); refine goesL_ (some 9) rfl rfl Try.func25 (by kernel_rfl) rfl #[.slice A0_0 l0_0.length c0_0, .slice A1_0 l1_0.length c1_0] rfl (by (try simp only [sD_, sE_, sF_]); rfl) ?_; (with_reducible refine (laws_eqNodeS.calls k _ _ l0_0 _ _ l1_0 true _ ?side1 ?side2 ?side3 ?side4 A3.out).mono ?_); (case side1 => repeat (first | exact (k4_ HR0_0.out HB.out) | (with_reducible refine Kd.C_alloc ?_ _) | (with_reducible refine Kd.C_drewN ?_ _) | (with_reducible refine Kd.C_drew ?_))); (case side2 => exact HC0_0.out); (case side3 => repeat (first | exact (k4_ HR1_0.out HB.out) | (with_reducible refine Kd.C_alloc ?_ _) | (with_reducible refine Kd.C_drewN ?_ _) | (with_reducible refine Kd.C_drew ?_))); (case side4 => exact HC1_0.out); rintro e w10 ⟨rfl, hb⟩; refine ⟨_, rfl, ?_⟩; replace BK393 := aM_ (bB_ BK393.out hb); replace BK394 := aM_ (bB_ BK394.out hb); replace HB := aM_ (bT_ HB.out hb); (try clear hb)))
  go_ret
  exact ⟨by rfl, by exact HB.out⟩
 ·
  replace c4 := Bool.eq_false_iff.mpr c4
  subst c4
  have H1 : (some false) = some r := by rw [if_neg (show ¬ (false = true) by decide)] at H; exact H
  clear H
  have H := H1
  clear H1
  obtain rfl := Option.some.inj H
  go_enter Try.func10, Try.ntmps10
  go_wp2_with (first | ((with_reducible refine gD_ (N := 2) rfl ?_); refine bE_ ?hg (N := 2) ?hd (cs := #[.slice A0_0 l0_0.length c0_0]) (t := 30) ?hr ?_; (case hd => rfl); (case hg => rfl); (case hr => (go_simp; done)); intro gb393 hg w11 hbox hb; have BK393 := aM_ (hbox); have GW393 := aM_ ((by rw [hg]; exact (bZ_ HB.out) : w.heap.size ≤ gb393)); have GE393 := GW393; replace HB := aM_ (bT_ HB.out hb); clear hb hbox hg) | ((with_reducible refine gD_ (N := 3) rfl ?_); refine bE_ ?hg (N := 3) ?hd (cs := #[.slice A1_0 l1_0.length c1_0]) (t := 30) ?hr ?_; (case hd => rfl); (case hg => rfl); (case hr => (go_simp; done)); intro gb394 hg w12 hbox hb; have BK394 := aM_ (hbox); have GW394 := aM_ ((by rw [hg]; exact (bZ_ HB.out) : w.heap.size ≤ gb394)); have GE394 := GW394; replace HB := aM_ (bT_ HB.out hb); have NB393_394 := aM_ ((by rw [hg]; exact Nat.ne_of_lt (bL_ BK393.out) : gb393 ≠ gb394)); have NB394_393 := aM_ NB393_394.out.symm; replace BK393 := aM_ (bB_ BK393.out hb); clear hb hbox hg; have hnb13 := NB393_394.out; have hnc13 := NB394_393.out; have hcz14_0 : w12.cell? ⟨gb393, 0, none⟩ = some (.slice A0_0 l0_0.length c0_0) := (bC_ BK393.out 0).trans rfl; have hfz14_0 := bF_ BK393.out 0; have hcz15_0 : w12.cell? ⟨gb394, 0, none⟩ = some (.slice A1_0 l1_0.length c1_0) := (bC_ BK394.out 0).trans rfl; have hfz15_0 := bF_ BK394.out 0) | ((with_reducible refine gC_ (f := 25) rfl ?_); refine goesL_ (some 9) rfl rfl Try.func25 (by kernel_rfl) rfl #[.slice A0_0 l0_0.length c0_0, .slice A1_0 l1_0.length c1_0] rfl (by (try simp only [sD_, sE_, sF_]); rfl) ?_; (with_reducible refine (laws_eqNodeS.calls k _ _ l0_0 _ _ l1_0 false _ ?side1 ?side2 ?side3 ?side4 A3.out).mono ?_); (case side1 => repeat (first | exact (k4_ HR0_0.out HB.out) | (with_reducible refine Kd.C_alloc ?_ _) | (with_reducible refine Kd.C_drewN ?_ _) | (with_reducible refine Kd.C_drew ?_))); (case side2 => exact HC0_0.out); (case side3 => repeat (first | exact (k4_ HR1_0.out HB.out) | (with_reducible refine Kd.C_alloc ?_ _) | (with_reducible refine Kd.C_drewN ?_ _) | (with_reducible refine Kd.C_drew ?_))); (case side4 => exact HC1_0.out); rintro e w16 ⟨rfl, hb⟩; refine ⟨_, rfl, ?_⟩; replace BK393 := aM_ (bB_ BK393.out hb); replace BK394 := aM_ (bB_ BK394.out hb); replace HB := aM_ (bT_ HB.out hb); (try clear hb)))
  go_ret
  exact ⟨by rfl, by exact HB.out⟩
def spec_l1In.f (a0 : Int) (a1 : Int) (a2 : Int) : Option (Bool) := if a0 ≥ a1 then (some (decide (a0 ≤ a2))) else (some false)
theorem spec_l1In.calls (a0 : Int) (a1 : Int) (a2 : Int) (r : Bool) (w : World) (h : spec_l1In.f a0 a1 a2 = some r) :
  Calls Try.prog 34 #[.int .i64 a0, .int .i64 a1, .int .i64 a2] w fun e w' => e = .returned (.bool r) ∧ Drawn0 w w' := by
 have H : (if a0 ≥ a1 then (some (decide (a0 ≤ a2))) else (some false)) = some r := h
 clear h
 by_cases c4 : a0 ≥ a1
 ·
  rw [if_pos c4] at H
  have c4b0 := decide_eq_true c4
  clear c4
  obtain rfl := Option.some.inj H
  go_enter Try.func34, Try.ntmps34
  go_wp2
  go_ret
  exact ⟨by rfl, by repeat (first | exact Drawn0.refl _ | apply Drawn0.step)⟩
 ·
  rw [if_neg c4] at H
  have c4b0 := decide_eq_false c4
  clear c4
  obtain rfl := Option.some.inj H
  go_enter Try.func34, Try.ntmps34
  go_wp2
  go_ret
  exact ⟨by rfl, by repeat (first | exact Drawn0.refl _ | apply Drawn0.step)⟩
mutual
def spec_l2Word.l0 : Nat → ByteArray → Int → Option (Bool)
 | 0, _, _ => none
 | k + 1, x0, x3 => if x3 < (x0.size : Int) then (spec_l2Word.j1 k x0 x3 (decide (x3 ≤ 12))) else (spec_l2Word.j1 k x0 x3 false)
def spec_l2Word.j1 : Nat → ByteArray → Int → Bool → Option (Bool)
 | 0, _, _, _ => none
 | k + 1, x0, x3, x11 => if x11 = true then (if 0 ≤ x3 then (if x3 < (x0.size : Int) then (if (bt x0 x3) < 97 then (some false) else (if (bt x0 x3) > 122 then (some false) else (spec_l2Word.l0 k x0 (wrap64 (x3 + 1))))) else (none)) else (none)) else (some (decide ((x0.size : Int) ≤ 12)))
end
def spec_l2Word.f (k : Nat) (a0 : ByteArray) : Option (Bool) := spec_l2Word.l0 k a0 0
theorem spec_l2Word.mono_l : ∀ k, (∀ y0 y1, LeO (spec_l2Word.l0 k y0 y1) (spec_l2Word.l0 (k + 1) y0 y1)) ∧ (∀ y0 y1 y2, LeO (spec_l2Word.j1 k y0 y1 y2) (spec_l2Word.j1 (k + 1) y0 y1 y2))
 | 0 => ⟨fun _ _ r h => by simp [spec_l2Word.l0] at h, fun _ _ _ r h => by simp [spec_l2Word.j1] at h⟩
 | k + 1 => by
  obtain ⟨ih0, ih1⟩ := spec_l2Word.mono_l k
  refine ⟨?_, ?_⟩
  ·
   intro y0 y1
   unfold spec_l2Word.l0
   repeat' first
   | (with_reducible exact ih0 _ _)
   | (with_reducible exact ih1 _ _ _)
   | (with_reducible exact l3_ _)
   | (with_reducible exact l0_ _)
   | (with_reducible refine l2_ ?_ ?_)
   | (with_reducible refine l1_ ?_ (fun _ => ?_))
   | exact ih0 _ _
   | exact ih1 _ _ _
   | exact l0_ _
   | refine l2_ ?_ ?_
   | refine l1_ ?_ (fun _ => ?_)
  ·
   intro y0 y1 y2
   unfold spec_l2Word.j1
   repeat' first
   | (with_reducible exact ih0 _ _)
   | (with_reducible exact ih1 _ _ _)
   | (with_reducible exact l3_ _)
   | (with_reducible exact l0_ _)
   | (with_reducible refine l2_ ?_ ?_)
   | (with_reducible refine l1_ ?_ (fun _ => ?_))
   | exact ih0 _ _
   | exact ih1 _ _ _
   | exact l0_ _
   | refine l2_ ?_ ?_
   | refine l1_ ?_ (fun _ => ?_)
theorem spec_l2Word.mono : ∀ a0 k, LeO (spec_l2Word.f k a0) (spec_l2Word.f (k + 1) a0) := by
 intro a0 k
 obtain ⟨ih0, ih1⟩ := spec_l2Word.mono_l k
 unfold spec_l2Word.f
 repeat' first
   | (with_reducible exact ih0 _ _)
   | (with_reducible exact ih1 _ _ _)
   | (with_reducible exact l3_ _)
   | (with_reducible exact l0_ _)
   | (with_reducible refine l2_ ?_ ?_)
   | (with_reducible refine l1_ ?_ (fun _ => ?_))
   | exact ih0 _ _
   | exact ih1 _ _ _
   | exact l0_ _
   | refine l2_ ?_ ?_
   | refine l1_ ?_ (fun _ => ?_)
theorem spec_l2Word.calls (k : Nat) (a0 : ByteArray) (r : Bool) (w : World) (h : spec_l2Word.f k a0 = some r) :
  Calls Try.prog 58 #[.string a0] w fun e w' => e = .returned (.bool r) ∧ Drawn0 w w' := by
 have H : (spec_l2Word.l0 k a0 0) = some r := h
 clear h
 have H' := aM_ H
 clear H
 go_enter Try.func58, Try.ntmps58
 go_wp2
 go_loopg [3] k (fun kq v3 w' => ∃ (x3_1 : Int), v3 = .int .i64 x3_1 ∧ Aside0 (spec_l2Word.l0 kq a0 x3_1 = some r) ∧ Aside0 (kq ≤ k) ∧ Drawn0 w w')
 case atStart => exact ⟨(0), (by rfl), H', ⟨Nat.le_refl _⟩, by repeat (first | exact Drawn0.refl _ | apply Drawn0.step)⟩
 case round =>
  clear H'
  obtain ⟨x3_1, rfl, HA, HK1, ⟨m1, rfl⟩⟩ := hrel
  cases gk with
  | zero => exact absurd HA.out (by simp [spec_l2Word.l0])
  | succ k1 =>
   have H := HA.out
   clear HA
   simp only [spec_l2Word.l0] at H
   have HC2 := aM_ H
   clear H
   go_upto_region 2 with (fail)
   go_cut [11] (fun v11 wc => ∃ (kq : Nat) (x11_1 : Bool), v11 = .bool x11_1 ∧ Aside0 (spec_l2Word.j1 kq a0 x3_1 x11_1 = some r) ∧ Aside0 (kq ≤ k1) ∧ Drawn0 w wc)
   case first =>
    have H := HC2.out
    clear HC2
    by_cases c3 : x3_1 < (a0.size : Int)
    ·
     rw [if_pos c3] at H
     have c3b0 := decide_eq_true c3
     clear c3
     (skip)
     have H' := aM_ H
     clear H
     go_wp2
     go_meet
     case rel => exact ⟨_, (decide (x3_1 ≤ 12)), (by rfl), H', ⟨by have := HK1.out; omega⟩, by repeat (first | exact Drawn0.refl _ | apply Drawn0.step)⟩
    ·
     rw [if_neg c3] at H
     have c3b0 := decide_eq_false c3
     clear c3
     (skip)
     have H' := aM_ H
     clear H
     go_wp2
     go_meet
     case rel => exact ⟨_, (false), (by rfl), H', ⟨by have := HK1.out; omega⟩, by repeat (first | exact Drawn0.refl _ | apply Drawn0.step)⟩
   case rest =>
    clear HC2
    try clear p2
    try clear c3b0
    obtain ⟨kq, x11_1, rfl, HA, HJ1, ⟨mc1, rfl⟩⟩ := hcut
    cases kq with
    | zero => exact absurd HA.out (by simp [spec_l2Word.j1])
    | succ kj1 =>
     have H := HA.out
     clear HA
     simp only [spec_l2Word.j1] at H
     by_cases c4 : x11_1 = true
     ·
      subst c4
      rw [if_pos rfl] at H
      by_cases c5 : 0 ≤ x3_1
      ·
       rw [if_pos c5] at H
       have c5b0 := decide_eq_true c5
       clear c5
       by_cases c6 : x3_1 < (a0.size : Int)
       ·
        rw [if_pos c6] at H
        have c6b0 := decide_eq_true c6
        clear c6
        by_cases c8 : (bt a0 x3_1) < 97
        ·
         rw [if_pos c8] at H
         have c8b0 := decide_eq_true c8
         clear c8
         obtain rfl := Option.some.inj H
         have p7 : 0 ≤ (x3_1 : Int) := of_decide_eq_true (by (with_reducible assumption))
         have q7 : x3_1 < (a0.size : Int) := of_decide_eq_true (by (with_reducible assumption))
         have hx7 := bt_at a0 x3_1
         replace p7 := eq_true p7
         replace q7 := eq_true q7
         go_wp2
         go_ret
         exact ⟨by rfl, by repeat (first | exact Drawn0.refl _ | apply Drawn0.step)⟩
        ·
         rw [if_neg c8] at H
         have c8b0 := decide_eq_false c8
         clear c8
         by_cases c10 : (bt a0 x3_1) > 122
         ·
          rw [if_pos c10] at H
          have c10b0 := decide_eq_true c10
          clear c10
          obtain rfl := Option.some.inj H
          have p7 : 0 ≤ (x3_1 : Int) := of_decide_eq_true (by (with_reducible assumption))
          have q7 : x3_1 < (a0.size : Int) := of_decide_eq_true (by (with_reducible assumption))
          have hx7 := bt_at a0 x3_1
          replace p7 := eq_true p7
          replace q7 := eq_true q7
          have p9 : 0 ≤ (x3_1 : Int) := of_decide_eq_true (by (with_reducible assumption))
          have q9 : x3_1 < (a0.size : Int) := of_decide_eq_true (by (with_reducible assumption))
          have hx9 := bt_at a0 x3_1
          replace p9 := eq_true p9
          replace q9 := eq_true q9
          go_wp2
          go_ret
          exact ⟨by rfl, by repeat (first | exact Drawn0.refl _ | apply Drawn0.step)⟩
         ·
          rw [if_neg c10] at H
          have c10b0 := decide_eq_false c10
          clear c10
          have H' := aM_ H
          clear H
          have p7 : 0 ≤ (x3_1 : Int) := of_decide_eq_true (by (with_reducible assumption))
          have q7 : x3_1 < (a0.size : Int) := of_decide_eq_true (by (with_reducible assumption))
          have hx7 := bt_at a0 x3_1
          replace p7 := eq_true p7
          replace q7 := eq_true q7
          have p9 : 0 ≤ (x3_1 : Int) := of_decide_eq_true (by (with_reducible assumption))
          have q9 : x3_1 < (a0.size : Int) := of_decide_eq_true (by (with_reducible assumption))
          have hx9 := bt_at a0 x3_1
          replace p9 := eq_true p9
          replace q9 := eq_true q9
          go_wp2
          go_roundg kj1
          case measure => have := HK1.out; have := HJ1.out; omega
          case rel => exact ⟨(wrap64 (x3_1 + 1)), (by rfl), H', ⟨by have := HK1.out; have := HJ1.out; omega⟩, by repeat (first | exact Drawn0.refl _ | apply Drawn0.step)⟩
       ·
        rw [if_neg c6] at H
        exact absurd H (by simp)
      ·
       rw [if_neg c5] at H
       exact absurd H (by simp)
     ·
      replace c4 := Bool.eq_false_iff.mpr c4
      subst c4
      have H1 : (some (decide ((a0.size : Int) ≤ 12))) = some r := by rw [if_neg (show ¬ (false = true) by decide)] at H; exact H
      clear H
      have H := H1
      clear H1
      obtain rfl := Option.some.inj H
      go_wp2
      go_ret
      exact ⟨by rfl, by repeat (first | exact Drawn0.refl _ | apply Drawn0.step)⟩
mutual
def spec_l2Before.l0 : Nat → ByteArray → ByteArray → Int → Option (Bool)
 | 0, _, _, _ => none
 | k + 1, x0, x1, x5 => if x5 < (x0.size : Int) then (spec_l2Before.j1 k x0 x1 x5 (decide (x5 < (x1.size : Int)))) else (spec_l2Before.j1 k x0 x1 x5 false)
def spec_l2Before.j1 : Nat → ByteArray → ByteArray → Int → Bool → Option (Bool)
 | 0, _, _, _, _ => none
 | k + 1, x0, x1, x5, x15 => if x15 = true then (if 0 ≤ x5 then (if x5 < (x0.size : Int) then (if x5 < (x1.size : Int) then (if (bt x0 x5) = (bt x1 x5) then (spec_l2Before.l0 k x0 x1 (wrap64 (x5 + 1))) else (some (decide ((bt x0 x5) < (bt x1 x5))))) else (none)) else (none)) else (none)) else (some (decide ((x0.size : Int) < (x1.size : Int))))
end
def spec_l2Before.f (k : Nat) (a0 : ByteArray) (a1 : ByteArray) : Option (Bool) := spec_l2Before.l0 k a0 a1 0
theorem spec_l2Before.mono_l : ∀ k, (∀ y0 y1 y2, LeO (spec_l2Before.l0 k y0 y1 y2) (spec_l2Before.l0 (k + 1) y0 y1 y2)) ∧ (∀ y0 y1 y2 y3, LeO (spec_l2Before.j1 k y0 y1 y2 y3) (spec_l2Before.j1 (k + 1) y0 y1 y2 y3))
 | 0 => ⟨fun _ _ _ r h => by simp [spec_l2Before.l0] at h, fun _ _ _ _ r h => by simp [spec_l2Before.j1] at h⟩
 | k + 1 => by
  obtain ⟨ih0, ih1⟩ := spec_l2Before.mono_l k
  refine ⟨?_, ?_⟩
  ·
   intro y0 y1 y2
   unfold spec_l2Before.l0
   repeat' first
   | (with_reducible exact ih0 _ _ _)
   | (with_reducible exact ih1 _ _ _ _)
   | (with_reducible exact l3_ _)
   | (with_reducible exact l0_ _)
   | (with_reducible refine l2_ ?_ ?_)
   | (with_reducible refine l1_ ?_ (fun _ => ?_))
   | exact ih0 _ _ _
   | exact ih1 _ _ _ _
   | exact l0_ _
   | refine l2_ ?_ ?_
   | refine l1_ ?_ (fun _ => ?_)
  ·
   intro y0 y1 y2 y3
   unfold spec_l2Before.j1
   repeat' first
   | (with_reducible exact ih0 _ _ _)
   | (with_reducible exact ih1 _ _ _ _)
   | (with_reducible exact l3_ _)
   | (with_reducible exact l0_ _)
   | (with_reducible refine l2_ ?_ ?_)
   | (with_reducible refine l1_ ?_ (fun _ => ?_))
   | exact ih0 _ _ _
   | exact ih1 _ _ _ _
   | exact l0_ _
   | refine l2_ ?_ ?_
   | refine l1_ ?_ (fun _ => ?_)
theorem spec_l2Before.mono : ∀ a0 a1 k, LeO (spec_l2Before.f k a0 a1) (spec_l2Before.f (k + 1) a0 a1) := by
 intro a0 a1 k
 obtain ⟨ih0, ih1⟩ := spec_l2Before.mono_l k
 unfold spec_l2Before.f
 repeat' first
   | (with_reducible exact ih0 _ _ _)
   | (with_reducible exact ih1 _ _ _ _)
   | (with_reducible exact l3_ _)
   | (with_reducible exact l0_ _)
   | (with_reducible refine l2_ ?_ ?_)
   | (with_reducible refine l1_ ?_ (fun _ => ?_))
   | exact ih0 _ _ _
   | exact ih1 _ _ _ _
   | exact l0_ _
   | refine l2_ ?_ ?_
   | refine l1_ ?_ (fun _ => ?_)
theorem spec_l2Before.calls (k : Nat) (a0 : ByteArray) (a1 : ByteArray) (r : Bool) (w : World) (h : spec_l2Before.f k a0 a1 = some r) :
  Calls Try.prog 71 #[.string a0, .string a1] w fun e w' => e = .returned (.bool r) ∧ Drawn0 w w' := by
 have H : (spec_l2Before.l0 k a0 a1 0) = some r := h
 clear h
 have H' := aM_ H
 clear H
 go_enter Try.func71, Try.ntmps71
 go_wp2
 repeat (go_quiet (fail); try go_wp2)
 go_loopg [5] k (fun kq v5 w' => ∃ (x5_1 : Int), v5 = .int .i64 x5_1 ∧ Aside0 (spec_l2Before.l0 kq a0 a1 x5_1 = some r) ∧ Aside0 (kq ≤ k) ∧ Drawn0 w w')
 case atStart => exact ⟨(0), (by rfl), H', ⟨Nat.le_refl _⟩, by repeat (first | exact Drawn0.refl _ | apply Drawn0.step)⟩
 case round =>
  clear H'
  try clear p2
  obtain ⟨x5_1, rfl, HA, HK1, ⟨m1, rfl⟩⟩ := hrel
  cases gk with
  | zero => exact absurd HA.out (by simp [spec_l2Before.l0])
  | succ k1 =>
   have H := HA.out
   clear HA
   simp only [spec_l2Before.l0] at H
   have HC3 := aM_ H
   clear H
   go_upto_region 2 with (fail)
   repeat (go_quiet (fail); go_upto_region 2 with (fail))
   go_cut [15] (fun v15 wc => ∃ (kq : Nat) (x15_2 : Bool), v15 = .bool x15_2 ∧ Aside0 (spec_l2Before.j1 kq a0 a1 x5_1 x15_2 = some r) ∧ Aside0 (kq ≤ k1) ∧ Drawn0 w wc)
   case first =>
    have H := HC3.out
    clear HC3
    by_cases c4 : x5_1 < (a0.size : Int)
    ·
     rw [if_pos c4] at H
     have c4b0 := decide_eq_true c4
     clear c4
     (skip)
     have H' := aM_ H
     clear H
     go_wp2
     repeat (go_quiet (fail); try go_wp2)
     go_meet
     case rel => exact ⟨_, (decide (x5_1 < (a1.size : Int))), (by rfl), H', ⟨by have := HK1.out; omega⟩, by repeat (first | exact Drawn0.refl _ | apply Drawn0.step)⟩
    ·
     rw [if_neg c4] at H
     have c4b0 := decide_eq_false c4
     clear c4
     (skip)
     have H' := aM_ H
     clear H
     go_wp2
     repeat (go_quiet (fail); try go_wp2)
     go_meet
     case rel => exact ⟨_, (false), (by rfl), H', ⟨by have := HK1.out; omega⟩, by repeat (first | exact Drawn0.refl _ | apply Drawn0.step)⟩
   case rest =>
    clear HC3
    try clear p2
    try clear c4b0
    try clear p2
    obtain ⟨kq, x15_2, rfl, HA, HJ2, ⟨mc2, rfl⟩⟩ := hcut
    cases kq with
    | zero => exact absurd HA.out (by simp [spec_l2Before.j1])
    | succ kj2 =>
     have H := HA.out
     clear HA
     simp only [spec_l2Before.j1] at H
     by_cases c5 : x15_2 = true
     ·
      subst c5
      rw [if_pos rfl] at H
      by_cases c6 : 0 ≤ x5_1
      ·
       rw [if_pos c6] at H
       have c6b0 := decide_eq_true c6
       clear c6
       by_cases c7 : x5_1 < (a0.size : Int)
       ·
        rw [if_pos c7] at H
        have c7b0 := decide_eq_true c7
        clear c7
        by_cases c9 : x5_1 < (a1.size : Int)
        ·
         rw [if_pos c9] at H
         have c9b0 := decide_eq_true c9
         clear c9
         by_cases c11 : (bt a0 x5_1) = (bt a1 x5_1)
         ·
          rw [if_pos c11] at H
          have c11b0 : ((bt a0 x5_1) == (bt a1 x5_1)) = true := beq_iff_eq.mpr c11
          have c11b1 : ((bt a0 x5_1) != (bt a1 x5_1)) = false := bne_eq_false_iff_eq.mpr c11
          clear c11
          have H' := aM_ H
          clear H
          have p8 : 0 ≤ (x5_1 : Int) := of_decide_eq_true (by (with_reducible assumption))
          have q8 : x5_1 < (a0.size : Int) := of_decide_eq_true (by (with_reducible assumption))
          have hx8 := bt_at a0 x5_1
          replace p8 := eq_true p8
          replace q8 := eq_true q8
          have p10 : 0 ≤ (x5_1 : Int) := of_decide_eq_true (by (with_reducible assumption))
          have q10 : x5_1 < (a1.size : Int) := of_decide_eq_true (by (with_reducible assumption))
          have hx10 := bt_at a1 x5_1
          replace p10 := eq_true p10
          replace q10 := eq_true q10
          go_wp2
          repeat (go_quiet (fail); try go_wp2)
          go_roundg kj2
          case measure => have := HK1.out; have := HJ2.out; omega
          case rel => exact ⟨(wrap64 (x5_1 + 1)), (by rfl), H', ⟨by have := HK1.out; have := HJ2.out; omega⟩, by repeat (first | exact Drawn0.refl _ | apply Drawn0.step)⟩
         ·
          rw [if_neg c11] at H
          have c11b0 : ((bt a0 x5_1) == (bt a1 x5_1)) = false := beq_eq_false_iff_ne.mpr c11
          have c11b1 : ((bt a0 x5_1) != (bt a1 x5_1)) = true := bne_iff_ne.mpr c11
          obtain rfl := Option.some.inj H
          have p8 : 0 ≤ (x5_1 : Int) := of_decide_eq_true (by (with_reducible assumption))
          have q8 : x5_1 < (a0.size : Int) := of_decide_eq_true (by (with_reducible assumption))
          have hx8 := bt_at a0 x5_1
          replace p8 := eq_true p8
          replace q8 := eq_true q8
          have p10 : 0 ≤ (x5_1 : Int) := of_decide_eq_true (by (with_reducible assumption))
          have q10 : x5_1 < (a1.size : Int) := of_decide_eq_true (by (with_reducible assumption))
          have hx10 := bt_at a1 x5_1
          replace p10 := eq_true p10
          replace q10 := eq_true q10
          have p12 : 0 ≤ (x5_1 : Int) := of_decide_eq_true (by (with_reducible assumption))
          have q12 : x5_1 < (a0.size : Int) := of_decide_eq_true (by (with_reducible assumption))
          have hx12 := bt_at a0 x5_1
          replace p12 := eq_true p12
          replace q12 := eq_true q12
          have p13 : 0 ≤ (x5_1 : Int) := of_decide_eq_true (by (with_reducible assumption))
          have q13 : x5_1 < (a1.size : Int) := of_decide_eq_true (by (with_reducible assumption))
          have hx13 := bt_at a1 x5_1
          replace p13 := eq_true p13
          replace q13 := eq_true q13
          go_wp2
          repeat (go_quiet (fail); try go_wp2)
          go_ret
          exact ⟨by rfl, by repeat (first | exact Drawn0.refl _ | apply Drawn0.step)⟩
        ·
         rw [if_neg c9] at H
         exact absurd H (by simp)
       ·
        rw [if_neg c7] at H
        exact absurd H (by simp)
      ·
       rw [if_neg c6] at H
       exact absurd H (by simp)
     ·
      replace c5 := Bool.eq_false_iff.mpr c5
      subst c5
      have H1 : (some (decide ((a0.size : Int) < (a1.size : Int)))) = some r := by rw [if_neg (show ¬ (false = true) by decide)] at H; exact H
      clear H
      have H := H1
      clear H1
      obtain rfl := Option.some.inj H
      go_wp2
      repeat (go_quiet (fail); try go_wp2)
      go_ret
      exact ⟨by rfl, by repeat (first | exact Drawn0.refl _ | apply Drawn0.step)⟩
def spec_l2Own.f (l0 : List ByteArray) : Option (List ByteArray) := (some (([] : List ByteArray) : List ByteArray)).bind fun y103 => (if y103.length + l0.length < 8796093022208 then (some (y103 ++ l0)) else (none))
theorem spec_l2Own.calls (A0 : Option Addr) (c0 : Nat) (l0 : List ByteArray) (r : List ByteArray) (w : World) (hr0 : Kd.C Kd.string w A0 l0.length l0) (hc0 : l0.length ≤ c0) (h : spec_l2Own.f l0 = some r) :
  Calls Try.prog 72 #[.slice A0 l0.length c0] w fun e w' => ∃ v0_ : Value, e = .returned (v0_) ∧ Kd.R Kd.string 9 w' w.heap.size (fun _ => True) v0_ r ∧ Below w.heap.size w w' := by
 have HR0 := aM_ hr0
 have HC0 := aM_ hc0
 clear hr0 hc0
 have HB := aM_ (Below.refl w.heap.size w)
 have H : ((some (([] : List ByteArray) : List ByteArray)).bind fun y103 => (if y103.length + l0.length < 8796093022208 then (some (y103 ++ l0)) else (none))) = some r := h
 clear h
 obtain ⟨y103, hy103⟩ : ∃ y_ : List ByteArray, y_ = (([] : List ByteArray)) := ⟨_, rfl⟩
 replace H : (if y103.length + l0.length < 8796093022208 then (some (y103 ++ l0)) else (none)) = some r := by first | (rw [hy103]; with_reducible exact H) | (have H2_ := (Option.bind_some _ _).symm.trans H; rw [hy103]; with_reducible exact H2_) | (have H2_ := (Option.bind_some _ _).symm.trans H; with_reducible exact H2_) | with_reducible exact H | (rw [hy103]; exact H) | exact H
 have Ny103 := aM_ hy103
 clear hy103
 by_cases c2 : y103.length + l0.length < 8796093022208
 rotate_left
 ·
  rw [if_neg c2] at H
  exact absurd H (by simp)
 rw [if_pos c2] at H
 have LMc2 := aM_ c2
 clear c2
 obtain ⟨y106, hy106⟩ : ∃ y_ : List ByteArray, y_ = (y103 ++ l0) := ⟨_, rfl⟩
 replace H : (some y106) = some r := by first | (rw [hy106]; with_reducible exact H) | (have H2_ := (Option.bind_some _ _).symm.trans H; rw [hy106]; with_reducible exact H2_) | (have H2_ := (Option.bind_some _ _).symm.trans H; with_reducible exact H2_) | with_reducible exact H | (rw [hy106]; exact H) | exact H
 have Ny106 := aM_ hy106
 clear hy106
 obtain rfl := Option.some.inj H
 go_enter Try.func72, Try.ntmps72
 go_wp2_with (first | ((with_reducible refine gD_ (N := 3) rfl ?_); refine Kd.R_lit Kd.string _ 9 ?hg (N := 3) ?hd (xs := ([] : List ByteArray)) (inner := []) (ok := fun _ => True) (okp := fun _ => True) ?hr ?hp (fun _ hk => hk) trivial (Below.refl _ _) (Nat.le_refl _) (by simp) ?_; (case hd => rfl); (case hg => rfl); (case hr => (go_simp; done)); (case hp => exact (Reps.none _ _)); intro v104 w3 ho4 hb hg_ hnew_; clear hg_ hnew_; (rw [← Ny103.out] at ho4); have HO105 := aM_ (k5_ ho4 (bZ_ HB.out)); replace HB := aM_ (bT_ HB.out hb); clear hb ho4) | ((with_reducible refine gate_builtin (b := .append) (xs := #[.tmp 3, .tmp 4]) rfl ?_); at_builtin; refine Kd.R_append_rows Kd.string (w0 := w) w.heap.size rfl (.tmp 3) (.tmp 4) 50 9 (.string ⟨#[]⟩) 16 rfl Try.underlying50 info9 rfl (by decide) (by omega) v104 y103 l0 _ _ _ (fun _ => True) (fun _ => False) rfl rfl ?aO ?aR (fun _ _ h => h) (fun _ h => h.elim) ?aF ?aB ?aS ?aL ?_; (case aR => repeat (first | exact (k4_ HR0.out HB.out) | (with_reducible refine Kd.C_alloc ?_ _) | (with_reducible refine Kd.C_drewN ?_ _) | (with_reducible refine Kd.C_drew ?_))); (case aB => exact HB.out); (case aF => exact (fun _ _ => trivial)); (case aO => exact HO105.out); (case aS => exact (bZ_ HB.out)); (case aL => have := LMc2.out; omega); intro v107 w5 ho hb hg hat; rw [← Ny106.out] at ho; have n0_ := aM_ (hb); have n1_ := aM_ (ho); clear HB; clear HO105; have HB := n0_; have HO108 := n1_; clear n0_ n1_; clear ho hb hg hat))
 go_ret
 exact ⟨_, by rfl, by exact HO108.out, by exact HB.out⟩
mutual
def spec_l2Prefix.l0 : Nat → Int → ByteArray → List (S65) → Option (ByteArray)
 | 0, _, _, _ => none
 | k + 1, x1, x5, x156000 => if x1 > 0 then (spec_l2Prefix.j1 k x1 x5 (decide ((x5.size : Int) ≤ 12)) x156000) else (spec_l2Prefix.j1 k x1 x5 false x156000)
def spec_l2Prefix.j1 : Nat → Int → ByteArray → Bool → List (S65) → Option (ByteArray)
 | 0, _, _, _, _ => none
 | k + 1, x1, x5, x13, x156000 => if x13 = true then (if 0 ≤ x1 then (if x1 < (x156000.length : Int) then ((spec_l1In.f ((rd_T65 x156000 x1).f0) 0 25).bind fun t158 => (if t158 = true then (if ((rd_T65 x156000 x1).f1) ≥ x1 then (some (⟨#[63]⟩ : ByteArray)) else ((some (([(wrap64 (97 + ((rd_T65 x156000 x1).f0))) % 256] : List Int) : List Int)).bind fun y159 => (if (strOfNums y159).size + x5.size ≤ 9223372036854775807 then (spec_l2Prefix.l0 k ((rd_T65 x156000 x1).f1) ((strOfNums y159) ++ x5) x156000) else (none)))) else (some (⟨#[63]⟩ : ByteArray)))) else (none)) else (none)) else (if x1 = 0 then (some x5) else (some (⟨#[63]⟩ : ByteArray)))
end
def spec_l2Prefix.f (k : Nat) (l0_0 : List (S65)) (a1 : Int) : Option (ByteArray) := spec_l2Prefix.l0 k a1 (⟨#[]⟩ : ByteArray) l0_0
theorem spec_l2Prefix.mono_l : ∀ k, (∀ y0 y1 y2, LeO (spec_l2Prefix.l0 k y0 y1 y2) (spec_l2Prefix.l0 (k + 1) y0 y1 y2)) ∧ (∀ y0 y1 y2 y3, LeO (spec_l2Prefix.j1 k y0 y1 y2 y3) (spec_l2Prefix.j1 (k + 1) y0 y1 y2 y3))
 | 0 => ⟨fun _ _ _ r h => by simp [spec_l2Prefix.l0] at h, fun _ _ _ _ r h => by simp [spec_l2Prefix.j1] at h⟩
 | k + 1 => by
  obtain ⟨ih0, ih1⟩ := spec_l2Prefix.mono_l k
  refine ⟨?_, ?_⟩
  ·
   intro y0 y1 y2
   unfold spec_l2Prefix.l0
   repeat' first
   | (with_reducible exact ih0 _ _ _)
   | (with_reducible exact ih1 _ _ _ _)
   | (with_reducible exact l3_ _)
   | (with_reducible exact l0_ _)
   | (with_reducible refine l2_ ?_ ?_)
   | (with_reducible refine l1_ ?_ (fun _ => ?_))
   | exact ih0 _ _ _
   | exact ih1 _ _ _ _
   | exact l0_ _
   | refine l2_ ?_ ?_
   | refine l1_ ?_ (fun _ => ?_)
  ·
   intro y0 y1 y2 y3
   unfold spec_l2Prefix.j1
   repeat' first
   | (with_reducible exact ih0 _ _ _)
   | (with_reducible exact ih1 _ _ _ _)
   | (with_reducible exact l3_ _)
   | (with_reducible exact l0_ _)
   | (with_reducible refine l2_ ?_ ?_)
   | (with_reducible refine l1_ ?_ (fun _ => ?_))
   | exact ih0 _ _ _
   | exact ih1 _ _ _ _
   | exact l0_ _
   | refine l2_ ?_ ?_
   | refine l1_ ?_ (fun _ => ?_)
theorem spec_l2Prefix.mono : ∀ a0 a1 k, LeO (spec_l2Prefix.f k a0 a1) (spec_l2Prefix.f (k + 1) a0 a1) := by
 intro a0 a1 k
 obtain ⟨ih0, ih1⟩ := spec_l2Prefix.mono_l k
 unfold spec_l2Prefix.f
 repeat' first
   | (with_reducible exact ih0 _ _ _)
   | (with_reducible exact ih1 _ _ _ _)
   | (with_reducible exact l3_ _)
   | (with_reducible exact l0_ _)
   | (with_reducible refine l2_ ?_ ?_)
   | (with_reducible refine l1_ ?_ (fun _ => ?_))
   | exact ih0 _ _ _
   | exact ih1 _ _ _ _
   | exact l0_ _
   | refine l2_ ?_ ?_
   | refine l1_ ?_ (fun _ => ?_)
theorem spec_l2Prefix.calls (k : Nat) (A0_0 : Option Addr) (c0_0 : Nat) (l0_0 : List (S65)) (a1 : Int) (r : ByteArray) (w : World) (hr0_0 : Kd.C k65 w A0_0 l0_0.length l0_0) (hc0_0 : l0_0.length ≤ c0_0) (h : spec_l2Prefix.f k l0_0 a1 = some r) :
  Calls Try.prog 60 #[.agg #[.slice A0_0 l0_0.length c0_0], .int .i64 a1] w fun e w' => e = .returned (.string r) ∧ Below w.heap.size w w' := by
 have hu30 := Try.underlying30
 have hu65 := Try.underlying65
 have HR0_0 := aM_ hr0_0
 have HC0_0 := aM_ hc0_0
 clear hr0_0 hc0_0
 have HB := aM_ (Below.refl w.heap.size w)
 have H : (spec_l2Prefix.l0 k a1 (⟨#[]⟩ : ByteArray) l0_0) = some r := h
 clear h
 have H' := aM_ H
 clear H
 go_enter Try.func60, Try.ntmps60
 go_wp2_with (first | ((with_reducible refine gD_ (N := 2) rfl ?_); (try (refine gate_guard (by rfl) ?_; dsimp only)); refine bE_ ?hg (N := 2) ?hd (cs := #[.slice A0_0 l0_0.length c0_0]) (t := 30) ?hr ?_; (case hd => rfl); (case hg => rfl); (case hr => (go_simp; done)); intro gb155 hg w3 hbox hb; have BK155 := aM_ (hbox); have GW155 := aM_ ((by rw [hg]; exact (bZ_ HB.out) : w.heap.size ≤ gb155)); have GE155 := GW155; replace HB := aM_ (bT_ HB.out hb); clear hb hbox hg))
 go_loopg [1, 5] k (fun kq v1 v5 w' => ∃ (x1_1 : Int) (x5_1 : ByteArray), v1 = .int .i64 x1_1 ∧ v5 = .string x5_1 ∧ Aside0 (spec_l2Prefix.l0 kq x1_1 x5_1 l0_0 = some r) ∧ Aside0 (kq ≤ k) ∧ Aside0 (w'.heap[gb155]? = some (.cells #[(.slice A0_0 l0_0.length c0_0)] 30 (0, 0))) ∧ Aside0 (Below w.heap.size w w'))
 case atStart => exact ⟨(a1), ((⟨#[]⟩ : ByteArray)), (by rfl), (by rfl), H', ⟨Nat.le_refl _⟩, ⟨BK155.out⟩, ⟨HB.out⟩⟩
 case round =>
  clear H'
  try clear p2
  obtain ⟨x1_1, x5_1, rfl, rfl, HA, HK1, BK155, HB⟩ := hrel
  cases gk with
  | zero => exact absurd HA.out (by simp [spec_l2Prefix.l0])
  | succ k1 =>
   have H := HA.out
   clear HA
   simp only [spec_l2Prefix.l0] at H
   have HC4 := aM_ H
   clear H
   go_upto_region 2 with (fail)
   go_cut [13] (fun v13 wc => ∃ (kq : Nat) (x13_3 : Bool), v13 = .bool x13_3 ∧ Aside0 (spec_l2Prefix.j1 kq x1_1 x5_1 x13_3 l0_0 = some r) ∧ Aside0 (kq ≤ k1) ∧ Aside0 (wc.heap[gb155]? = some (.cells #[(.slice A0_0 l0_0.length c0_0)] 30 (0, 0))) ∧ Aside0 (Below w.heap.size w wc))
   case first =>
    have H := HC4.out
    clear HC4
    by_cases c5 : x1_1 > 0
    ·
     rw [if_pos c5] at H
     have c5b0 := decide_eq_true c5
     clear c5
     (skip)
     have H' := aM_ H
     clear H
     go_wp2
     go_meet
     case rel => exact ⟨_, (decide ((x5_1.size : Int) ≤ 12)), (by rfl), H', ⟨by have := HK1.out; omega⟩, ⟨BK155.out⟩, ⟨HB.out⟩⟩
    ·
     rw [if_neg c5] at H
     have c5b0 := decide_eq_false c5
     clear c5
     (skip)
     have H' := aM_ H
     clear H
     go_wp2
     go_meet
     case rel => exact ⟨_, (false), (by rfl), H', ⟨by have := HK1.out; omega⟩, ⟨BK155.out⟩, ⟨HB.out⟩⟩
   case rest =>
    clear HC4
    try clear p2
    try clear c5b0
    try clear p2
    obtain ⟨kq, x13_3, rfl, HA, HJ3, BK155, HB⟩ := hcut
    cases kq with
    | zero => exact absurd HA.out (by simp [spec_l2Prefix.j1])
    | succ kj3 =>
     have H := HA.out
     clear HA
     simp only [spec_l2Prefix.j1] at H
     by_cases c6 : x13_3 = true
     ·
      subst c6
      rw [if_pos rfl] at H
      by_cases c7 : 0 ≤ x1_1
      ·
       rw [if_pos c7] at H
       have c7b0 := decide_eq_true c7
       clear c7
       by_cases c8 : x1_1 < (l0_0.length : Int)
       ·
        rw [if_pos c8] at H
        have c8b0 := decide_eq_true c8
        clear c8
        replace H := oB_.mp H
        obtain ⟨t158, A90, H⟩ := H
        try dsimp only at H
        have A9 := aM_ A90
        clear A90
        by_cases c10 : t158 = true
        ·
         subst c10
         rw [if_pos rfl] at H
         by_cases c11 : ((rd_T65 l0_0 x1_1).f1) ≥ x1_1
         ·
          rw [if_pos c11] at H
          have c11b0 := decide_eq_true c11
          clear c11
          obtain rfl := Option.some.inj H
          have hcz12_0 : wc.cell? ⟨gb155, 0, none⟩ = some (.slice A0_0 l0_0.length c0_0) := (bC_ BK155.out 0).trans rfl
          have hfz12_0 := bF_ BK155.out 0
          have p156 : 0 ≤ (x1_1 : Int) := of_decide_eq_true (by (with_reducible assumption))
          have q156 : x1_1 < (l0_0.length : Int) := of_decide_eq_true (by (with_reducible assumption))
          obtain ⟨ad156, e156, hx156_0, hx156_1, hx156_2⟩ := at_T65 HR0_0.out x1_1 p156 q156
          cases e156
          replace hx156_0 := (HB.out.cell (wB_ w _ hx156_0)).trans hx156_0
          replace hx156_1 := (HB.out.cell (wB_ w _ hx156_1)).trans hx156_1
          replace hx156_2 := (HB.out.cell (wB_ w _ hx156_2)).trans hx156_2
          replace p156 := eq_true p156
          replace q156 := eq_true q156
          go_wp2_with (first | ((with_reducible refine gD_ (N := 6) rfl ?_); (try (refine gate_guard (by rfl) ?_; dsimp only)); refine bE_ ?hg (N := 6) ?hd (cs := #[.int .i64 0, .int .i64 0, .bool false]) (t := 65) ?hr ?_; (case hd => rfl); (case hg => rfl); (case hr => (go_simp; done)); intro gb157 hg w13 hbox hb; have BK157 := aM_ (hbox); have GW157 := aM_ ((by rw [hg]; exact (bZ_ HB.out) : w.heap.size ≤ gb157)); have GE157 := GW157; replace HB := aM_ (bT_ HB.out hb); have NB155_157 := aM_ ((by rw [hg]; exact Nat.ne_of_lt (bL_ BK155.out) : gb155 ≠ gb157)); have NB157_155 := aM_ NB155_157.out.symm; replace BK155 := aM_ (bB_ BK155.out hb); clear hb hbox hg; have hnb14 := NB157_155.out; have hnc14 := NB155_157.out; have hcz15_0 : w13.cell? ⟨gb157, 0, none⟩ = some (.int .i64 0) := (bC_ BK157.out 0).trans rfl; have hcz15_1 : w13.cell? ⟨gb157, 1, none⟩ = some (.int .i64 0) := (bC_ BK157.out 1).trans rfl; have hcz15_2 : w13.cell? ⟨gb157, 2, none⟩ = some (.bool false) := (bC_ BK157.out 2).trans rfl; have hfz15_0 := bF_ BK157.out 0; have hfz15_1 := bF_ BK157.out 1; have hfz15_2 := bF_ BK157.out 2) | ((with_reducible refine gC_ (f := 34) rfl ?_); refine goesL_ (some 21) rfl rfl Try.func34 (by kernel_rfl) rfl #[.int .i64 ((rd_T65 l0_0 x1_1).f0), .int .i64 0, .int .i64 25] rfl (by (try simp only [sD_, sE_, sF_]); rfl) ?_; (with_reducible refine (spec_l1In.calls ((rd_T65 l0_0 x1_1).f0) 0 25 true _ A9.out).mono ?_); rintro e w' ⟨rfl, ⟨nd, rfl⟩⟩; refine ⟨_, rfl, ?_⟩))
          go_ret
          exact ⟨by rfl, by repeat (first | (with_reducible first | exact HB.out | apply bA_ | apply bN_ | apply bD_ | refine bS_ ?_ GE155.out | refine bS_ ?_ GE157.out) | exact HB.out)⟩
         ·
          rw [if_neg c11] at H
          have c11b0 := decide_eq_false c11
          clear c11
          obtain ⟨y159, hy159⟩ : ∃ y_ : List Int, y_ = (([(wrap64 (97 + ((rd_T65 l0_0 x1_1).f0))) % 256] : List Int)) := ⟨_, rfl⟩
          replace H : (if (strOfNums y159).size + x5_1.size ≤ 9223372036854775807 then (spec_l2Prefix.l0 kj3 ((rd_T65 l0_0 x1_1).f1) ((strOfNums y159) ++ x5_1) l0_0) else (none)) = some r := by first | (rw [hy159]; with_reducible exact H) | (have H2_ := (Option.bind_some _ _).symm.trans H; rw [hy159]; with_reducible exact H2_) | (have H2_ := (Option.bind_some _ _).symm.trans H; with_reducible exact H2_) | with_reducible exact H | (rw [hy159]; exact H) | exact H
          have Ny159 := aM_ hy159
          clear hy159
          by_cases c16 : (strOfNums y159).size + x5_1.size ≤ 9223372036854775807
          ·
           rw [if_pos c16] at H
           have c16b0 := eq_true c16
           have c16b1 := decide_eq_true c16
           try have c16b2 : (9223372036854775807 < (strOfNums y159).size + x5_1.size) = False := eq_false (Nat.not_lt.2 c16)
           have H' := aM_ H
           clear H
           have hcz17_0 : wc.cell? ⟨gb155, 0, none⟩ = some (.slice A0_0 l0_0.length c0_0) := (bC_ BK155.out 0).trans rfl
           have hfz17_0 := bF_ BK155.out 0
           have p156 : 0 ≤ (x1_1 : Int) := of_decide_eq_true (by (with_reducible assumption))
           have q156 : x1_1 < (l0_0.length : Int) := of_decide_eq_true (by (with_reducible assumption))
           obtain ⟨ad156, e156, hx156_0, hx156_1, hx156_2⟩ := at_T65 HR0_0.out x1_1 p156 q156
           cases e156
           replace hx156_0 := (HB.out.cell (wB_ w _ hx156_0)).trans hx156_0
           replace hx156_1 := (HB.out.cell (wB_ w _ hx156_1)).trans hx156_1
           replace hx156_2 := (HB.out.cell (wB_ w _ hx156_2)).trans hx156_2
           replace p156 := eq_true p156
           replace q156 := eq_true q156
           go_wp2_with (first | ((with_reducible refine gD_ (N := 6) rfl ?_); (try (refine gate_guard (by rfl) ?_; dsimp only)); refine bE_ ?hg (N := 6) ?hd (cs := #[.int .i64 0, .int .i64 0, .bool false]) (t := 65) ?hr ?_; (case hd => rfl); (case hg => rfl); (case hr => (go_simp; done)); intro gb157 hg w18 hbox hb; have BK157 := aM_ (hbox); have GW157 := aM_ ((by rw [hg]; exact (bZ_ HB.out) : w.heap.size ≤ gb157)); have GE157 := GW157; replace HB := aM_ (bT_ HB.out hb); have NB155_157 := aM_ ((by rw [hg]; exact Nat.ne_of_lt (bL_ BK155.out) : gb155 ≠ gb157)); have NB157_155 := aM_ NB155_157.out.symm; replace BK155 := aM_ (bB_ BK155.out hb); clear hb hbox hg; have hnb19 := NB157_155.out; have hnc19 := NB155_157.out; have hcz20_0 : w18.cell? ⟨gb157, 0, none⟩ = some (.int .i64 0) := (bC_ BK157.out 0).trans rfl; have hcz20_1 : w18.cell? ⟨gb157, 1, none⟩ = some (.int .i64 0) := (bC_ BK157.out 1).trans rfl; have hcz20_2 : w18.cell? ⟨gb157, 2, none⟩ = some (.bool false) := (bC_ BK157.out 2).trans rfl; have hfz20_0 := bF_ BK157.out 0; have hfz20_1 := bF_ BK157.out 1; have hfz20_2 := bF_ BK157.out 2) | ((with_reducible refine gC_ (f := 34) rfl ?_); refine goesL_ (some 21) rfl rfl Try.func34 (by kernel_rfl) rfl #[.int .i64 ((rd_T65 l0_0 x1_1).f0), .int .i64 0, .int .i64 25] rfl (by (try simp only [sD_, sE_, sF_]); rfl) ?_; (with_reducible refine (spec_l1In.calls ((rd_T65 l0_0 x1_1).f0) 0 25 true _ A9.out).mono ?_); rintro e w' ⟨rfl, ⟨nd, rfl⟩⟩; refine ⟨_, rfl, ?_⟩) | ((with_reducible refine gD_ (N := 33) rfl ?_); (try (refine gate_guard (by rfl) ?_; dsimp only)); refine Kd.R_lit (Kd.int .u8) _ 5 ?hg (N := 33) ?hd (xs := ([(wrap64 (97 + ((rd_T65 l0_0 x1_1).f0))) % 256] : List Int)) (inner := [.int .u8 ((wrap64 (97 + ((rd_T65 l0_0 x1_1).f0))) % 256)]) (ok := fun _ => True) (okp := fun _ => True) ?hr ?hp (fun _ hk => hk) trivial (Below.refl _ _) (Nat.le_refl _) (by simp) ?_; (case hd => rfl); (case hg => rfl); (case hr => (go_simp; done)); (case hp => exact (Reps.one (show Kd.M (Kd.int .u8) _ _ _ ((wrap64 (97 + ((rd_T65 l0_0 x1_1).f0))) % 256) [.int .u8 ((wrap64 (97 + ((rd_T65 l0_0 x1_1).f0))) % 256)] from rfl) (Reps.none _ _))); intro v160 w21 ho22 hb hg_ hnew_; clear hg_ hnew_; (rw [← Ny159.out] at ho22); have HO161 := aM_ (k5_ ho22 (bZ_ (by repeat (first | (with_reducible first | exact HB.out | apply bA_ | apply bN_ | apply bD_ | refine bS_ ?_ GE155.out | refine bS_ ?_ GE157.out) | exact HB.out)))); replace BK155 := aM_ (bB_ (g := gb155) (o := .cells #[.slice (some ad156) l0_0.length c0_0] 30 (0, 0)) (by (with_reducible repeat (first | refine b2_ ?_ _ | refine b1_ ?_ | refine b3_ ?_ _)); refine bR_ ?_ NB155_157.out _; refine bR_ ?_ NB155_157.out _; refine bR_ ?_ NB155_157.out _; exact BK155.out) hb); replace BK157 := aM_ (bB_ (g := gb157) (o := .cells #[.int .i64 ((rd_T65 l0_0 x1_1).f0), .int .i64 ((rd_T65 l0_0 x1_1).f1), .bool ((rd_T65 l0_0 x1_1).f2)] 65 (0, 0)) (by (with_reducible repeat (first | refine b2_ ?_ _ | refine b1_ ?_ | refine b3_ ?_ _)); refine bP_ (cs := #[.int .i64 ((rd_T65 l0_0 x1_1).f0), .int .i64 ((rd_T65 l0_0 x1_1).f1), .bool false]) ?_ 2 _ rfl; refine bP_ (cs := #[.int .i64 ((rd_T65 l0_0 x1_1).f0), .int .i64 0, .bool false]) ?_ 1 _ rfl; refine bP_ (cs := #[.int .i64 0, .int .i64 0, .bool false]) ?_ 0 _ rfl; exact BK157.out) hb); replace HB := aM_ (bT_ (by repeat (first | (with_reducible first | exact HB.out | apply bA_ | apply bN_ | apply bD_ | refine bS_ ?_ GE155.out | refine bS_ ?_ GE157.out) | exact HB.out)) hb); clear hb ho22; have hcv23 := own_string (P := Try.prog) Try.underlying97 Try.underlying5 Try.underlying9 (Kd.own_of_R HO161.out); have hcz24_0 : w21.cell? ⟨gb157, 0, none⟩ = some (.int .i64 ((rd_T65 l0_0 x1_1).f0)) := (bC_ BK157.out 0).trans rfl; have hcz24_1 : w21.cell? ⟨gb157, 1, none⟩ = some (.int .i64 ((rd_T65 l0_0 x1_1).f1)) := (bC_ BK157.out 1).trans rfl; have hcz24_2 : w21.cell? ⟨gb157, 2, none⟩ = some (.bool ((rd_T65 l0_0 x1_1).f2)) := (bC_ BK157.out 2).trans rfl; have hfz24_0 := bF_ BK157.out 0; have hfz24_1 := bF_ BK157.out 1; have hfz24_2 := bF_ BK157.out 2))
           go_roundg kj3
           case measure => have := HK1.out; have := HJ3.out; omega
           case rel => exact ⟨((rd_T65 l0_0 x1_1).f1), ((strOfNums y159) ++ x5_1), (by rfl), (by rfl), H', ⟨by have := HK1.out; have := HJ3.out; omega⟩, ⟨BK155.out⟩, ⟨HB.out⟩⟩
          ·
           rw [if_neg c16] at H
           exact absurd H (by simp)
        ·
         replace c10 := Bool.eq_false_iff.mpr c10
         subst c10
         have H1 : (some (⟨#[63]⟩ : ByteArray)) = some r := by rw [if_neg (show ¬ (false = true) by decide)] at H; exact H
         clear H
         have H := H1
         clear H1
         obtain rfl := Option.some.inj H
         have hcz25_0 : wc.cell? ⟨gb155, 0, none⟩ = some (.slice A0_0 l0_0.length c0_0) := (bC_ BK155.out 0).trans rfl
         have hfz25_0 := bF_ BK155.out 0
         have p156 : 0 ≤ (x1_1 : Int) := of_decide_eq_true (by (with_reducible assumption))
         have q156 : x1_1 < (l0_0.length : Int) := of_decide_eq_true (by (with_reducible assumption))
         obtain ⟨ad156, e156, hx156_0, hx156_1, hx156_2⟩ := at_T65 HR0_0.out x1_1 p156 q156
         cases e156
         replace hx156_0 := (HB.out.cell (wB_ w _ hx156_0)).trans hx156_0
         replace hx156_1 := (HB.out.cell (wB_ w _ hx156_1)).trans hx156_1
         replace hx156_2 := (HB.out.cell (wB_ w _ hx156_2)).trans hx156_2
         replace p156 := eq_true p156
         replace q156 := eq_true q156
         go_wp2_with (first | ((with_reducible refine gD_ (N := 6) rfl ?_); (try (refine gate_guard (by rfl) ?_; dsimp only)); refine bE_ ?hg (N := 6) ?hd (cs := #[.int .i64 0, .int .i64 0, .bool false]) (t := 65) ?hr ?_; (case hd => rfl); (case hg => rfl); (case hr => (go_simp; done)); intro gb157 hg w26 hbox hb; have BK157 := aM_ (hbox); have GW157 := aM_ ((by rw [hg]; exact (bZ_ HB.out) : w.heap.size ≤ gb157)); have GE157 := GW157; replace HB := aM_ (bT_ HB.out hb); have NB155_157 := aM_ ((by rw [hg]; exact Nat.ne_of_lt (bL_ BK155.out) : gb155 ≠ gb157)); have NB157_155 := aM_ NB155_157.out.symm; replace BK155 := aM_ (bB_ BK155.out hb); clear hb hbox hg; have hnb27 := NB157_155.out; have hnc27 := NB155_157.out; have hcz28_0 : w26.cell? ⟨gb157, 0, none⟩ = some (.int .i64 0) := (bC_ BK157.out 0).trans rfl; have hcz28_1 : w26.cell? ⟨gb157, 1, none⟩ = some (.int .i64 0) := (bC_ BK157.out 1).trans rfl; have hcz28_2 : w26.cell? ⟨gb157, 2, none⟩ = some (.bool false) := (bC_ BK157.out 2).trans rfl; have hfz28_0 := bF_ BK157.out 0; have hfz28_1 := bF_ BK157.out 1; have hfz28_2 := bF_ BK157.out 2) | ((with_reducible refine gC_ (f := 34) rfl ?_); refine goesL_ (some 21) rfl rfl Try.func34 (by kernel_rfl) rfl #[.int .i64 ((rd_T65 l0_0 x1_1).f0), .int .i64 0, .int .i64 25] rfl (by (try simp only [sD_, sE_, sF_]); rfl) ?_; (with_reducible refine (spec_l1In.calls ((rd_T65 l0_0 x1_1).f0) 0 25 false _ A9.out).mono ?_); rintro e w' ⟨rfl, ⟨nd, rfl⟩⟩; refine ⟨_, rfl, ?_⟩))
         go_ret
         exact ⟨by rfl, by repeat (first | (with_reducible first | exact HB.out | apply bA_ | apply bN_ | apply bD_ | refine bS_ ?_ GE155.out | refine bS_ ?_ GE157.out) | exact HB.out)⟩
       ·
        rw [if_neg c8] at H
        exact absurd H (by simp)
      ·
       rw [if_neg c7] at H
       exact absurd H (by simp)
     ·
      replace c6 := Bool.eq_false_iff.mpr c6
      subst c6
      have H1 : (if x1_1 = 0 then (some x5_1) else (some (⟨#[63]⟩ : ByteArray))) = some r := by rw [if_neg (show ¬ (false = true) by decide)] at H; exact H
      clear H
      have H := H1
      clear H1
      by_cases c29 : x1_1 = 0
      ·
       rw [if_pos c29] at H
       have c29b0 : (x1_1 == 0) = true := beq_iff_eq.mpr c29
       have c29b1 : (x1_1 != 0) = false := bne_eq_false_iff_eq.mpr c29
       clear c29
       obtain rfl := Option.some.inj H
       go_wp2
       go_ret
       exact ⟨by rfl, by exact HB.out⟩
      ·
       rw [if_neg c29] at H
       have c29b0 : (x1_1 == 0) = false := beq_eq_false_iff_ne.mpr c29
       have c29b1 : (x1_1 != 0) = true := bne_iff_ne.mpr c29
       obtain rfl := Option.some.inj H
       go_wp2
       go_ret
       exact ⟨by rfl, by exact HB.out⟩
def spec_l2Words.l0 : Nat → List ByteArray → Int → List (S65) → Option (List ByteArray)
 | 0, _, _, _ => none
 | k + 1, x3, x4, x163000 => if x4 < (x163000.length : Int) then (if 0 ≤ x4 then (if (rd_T65 x163000 x4).f2 = true then ((spec_l2Prefix.f k x163000 x4).bind fun t167 => (if x3.length < 8796093022208 then (spec_l2Words.l0 k (x3 ++ [t167]) (wrap64 (x4 + 1)) x163000) else (none))) else (spec_l2Words.l0 k x3 (wrap64 (x4 + 1)) x163000)) else (none)) else (some x3)
def spec_l2Words.f (k : Nat) (l0_0 : List (S65)) : Option (List ByteArray) := spec_l2Words.l0 k (([] : List ByteArray)) 0 l0_0
theorem spec_l2Words.mono_l : ∀ k, (∀ y0 y1 y2, LeO (spec_l2Words.l0 k y0 y1 y2) (spec_l2Words.l0 (k + 1) y0 y1 y2))
 | 0 => fun _ _ _ r h => by simp [spec_l2Words.l0] at h
 | k + 1 => by
  have ih0 := spec_l2Words.mono_l k
  ·
   intro y0 y1 y2
   unfold spec_l2Words.l0
   repeat' first
   | (with_reducible exact ih0 _ _ _)
   | (with_reducible exact spec_l2Prefix.mono _ _ _)
   | (with_reducible exact l3_ _)
   | (with_reducible exact l0_ _)
   | (with_reducible refine l2_ ?_ ?_)
   | (with_reducible refine l1_ ?_ (fun _ => ?_))
   | exact ih0 _ _ _
   | exact spec_l2Prefix.mono _ _ _
   | exact l0_ _
   | refine l2_ ?_ ?_
   | refine l1_ ?_ (fun _ => ?_)
theorem spec_l2Words.mono : ∀ a0 k, LeO (spec_l2Words.f k a0) (spec_l2Words.f (k + 1) a0) := by
 intro a0 k
 have ih0 := spec_l2Words.mono_l k
 unfold spec_l2Words.f
 repeat' first
   | (with_reducible exact ih0 _ _ _)
   | (with_reducible exact spec_l2Prefix.mono _ _ _)
   | (with_reducible exact l3_ _)
   | (with_reducible exact l0_ _)
   | (with_reducible refine l2_ ?_ ?_)
   | (with_reducible refine l1_ ?_ (fun _ => ?_))
   | exact ih0 _ _ _
   | exact spec_l2Prefix.mono _ _ _
   | exact l0_ _
   | refine l2_ ?_ ?_
   | refine l1_ ?_ (fun _ => ?_)
theorem spec_l2Words.calls (k : Nat) (A0_0 : Option Addr) (c0_0 : Nat) (l0_0 : List (S65)) (r : List ByteArray) (w : World) (hr0_0 : Kd.C k65 w A0_0 l0_0.length l0_0) (hc0_0 : l0_0.length ≤ c0_0) (h : spec_l2Words.f k l0_0 = some r) :
  Calls Try.prog 43 #[.agg #[.slice A0_0 l0_0.length c0_0]] w fun e w' => ∃ v0_ : Value, e = .returned (v0_) ∧ Kd.R Kd.string 9 w' w.heap.size (fun _ => True) v0_ r ∧ Below w.heap.size w w' := by
 have hu30 := Try.underlying30
 have HR0_0 := aM_ hr0_0
 have HC0_0 := aM_ hc0_0
 clear hr0_0 hc0_0
 have HB := aM_ (Below.refl w.heap.size w)
 have H : (spec_l2Words.l0 k (([] : List ByteArray)) 0 l0_0) = some r := h
 clear h
 obtain ⟨y163, hy163⟩ : ∃ y_ : List ByteArray, y_ = (([] : List ByteArray)) := ⟨_, rfl⟩
 replace H : (spec_l2Words.l0 k y163 0 l0_0) = some r := by first | (rw [hy163]; with_reducible exact H) | (have H2_ := (Option.bind_some _ _).symm.trans H; rw [hy163]; with_reducible exact H2_) | (have H2_ := (Option.bind_some _ _).symm.trans H; with_reducible exact H2_) | with_reducible exact H | (rw [hy163]; exact H) | exact H
 have Ny163 := aM_ hy163
 clear hy163
 have H' := aM_ H
 clear H
 go_enter Try.func43, Try.ntmps43
 go_wp2_with (first | ((with_reducible refine gD_ (N := 1) rfl ?_); refine bE_ ?hg (N := 1) ?hd (cs := #[.slice A0_0 l0_0.length c0_0]) (t := 30) ?hr ?_; (case hd => rfl); (case hg => rfl); (case hr => (go_simp; done)); intro gb162 hg w2 hbox hb; have BK162 := aM_ (hbox); have GW162 := aM_ ((by rw [hg]; exact (bZ_ HB.out) : w.heap.size ≤ gb162)); have GE162 := GW162; replace HB := aM_ (bT_ HB.out hb); clear hb hbox hg) | ((with_reducible refine gD_ (N := 5) rfl ?_); refine Kd.R_lit Kd.string _ 9 ?hg (N := 5) ?hd (xs := ([] : List ByteArray)) (inner := []) (ok := fun _ => True) (okp := fun _ => True) ?hr ?hp (fun _ hk => hk) trivial (Below.refl _ _) (Nat.le_refl _) (by simp) ?_; (case hd => rfl); (case hg => rfl); (case hr => (go_simp; done)); (case hp => exact (Reps.none _ _)); intro v164 w3 ho4 hb hg_ hnew_; clear hg_ hnew_; (rw [← Ny163.out] at ho4); have HO165 := aM_ (k5_ ho4 (bZ_ HB.out)); replace BK162 := aM_ (bB_ BK162.out hb); replace HB := aM_ (bT_ HB.out hb); clear hb ho4))
 go_loopg [3, 4] k (fun kq v3 v4 w' => ∃ (x3_1 : List ByteArray) (x4_1 : Int), v4 = .int .i64 x4_1 ∧ Aside0 (spec_l2Words.l0 kq x3_1 x4_1 l0_0 = some r) ∧ Aside0 (kq ≤ k) ∧ Aside0 (Kd.R Kd.string 9 w' w.heap.size (fun _ => True) v3 x3_1) ∧ Aside0 (w'.heap[gb162]? = some (.cells #[(.slice A0_0 l0_0.length c0_0)] 30 (0, 0))) ∧ Aside0 (Below w.heap.size w w'))
 case atStart => exact ⟨(y163), (0), (by rfl), H', ⟨Nat.le_refl _⟩, ⟨HO165.out⟩, ⟨BK162.out⟩, ⟨HB.out⟩⟩
 case round =>
  clear H'
  try clear p2
  obtain ⟨x3_1, x4_1, rfl, HA, HK1, HO_3, BK162, HB⟩ := hrel
  cases gk with
  | zero => exact absurd HA.out (by simp [spec_l2Words.l0])
  | succ k1 =>
   have H := HA.out
   clear HA
   simp only [spec_l2Words.l0] at H
   by_cases c5 : x4_1 < (l0_0.length : Int)
   ·
    rw [if_pos c5] at H
    have c5b0 := decide_eq_true c5
    clear c5
    by_cases c6 : 0 ≤ x4_1
    ·
     rw [if_pos c6] at H
     have c6b0 := decide_eq_true c6
     clear c6
     obtain ⟨bq7, hbq7⟩ : ∃ b_ : Bool, b_ = ((rd_T65 l0_0 x4_1).f2) := ⟨_, rfl⟩
     replace H : (if bq7 = true then ((spec_l2Prefix.f k1 l0_0 x4_1).bind fun t167 => (if x3_1.length < 8796093022208 then (spec_l2Words.l0 k1 (x3_1 ++ [t167]) (wrap64 (x4_1 + 1)) l0_0) else (none))) else (spec_l2Words.l0 k1 x3_1 (wrap64 (x4_1 + 1)) l0_0)) = some r := by rw [← hbq7] at H; exact H
     have Nbq7 := aM_ hbq7
     clear hbq7
     by_cases c8 : bq7 = true
     ·
      subst c8
      rw [if_pos rfl] at H
      replace H := oB_.mp H
      obtain ⟨t167, A90, H⟩ := H
      try dsimp only at H
      have A9 := aM_ A90
      clear A90
      by_cases c10 : x3_1.length < 8796093022208
      ·
       rw [if_pos c10] at H
       have LMc10 := aM_ c10
       clear c10
       obtain ⟨y168, hy168⟩ : ∃ y_ : List ByteArray, y_ = (x3_1 ++ [t167]) := ⟨_, rfl⟩
       replace H : (spec_l2Words.l0 k1 y168 (wrap64 (x4_1 + 1)) l0_0) = some r := by first | (rw [hy168]; with_reducible exact H) | (have H2_ := (Option.bind_some _ _).symm.trans H; rw [hy168]; with_reducible exact H2_) | (have H2_ := (Option.bind_some _ _).symm.trans H; with_reducible exact H2_) | with_reducible exact H | (rw [hy168]; exact H) | exact H
       have Ny168 := aM_ hy168
       clear hy168
       have H' := aM_ H
       clear H
       have hcz11_0 : wr.cell? ⟨gb162, 0, none⟩ = some (.slice A0_0 l0_0.length c0_0) := (bC_ BK162.out 0).trans rfl
       have hfz11_0 := bF_ BK162.out 0
       have p166 : 0 ≤ (x4_1 : Int) := of_decide_eq_true (by (with_reducible assumption))
       have q166 : x4_1 < (l0_0.length : Int) := of_decide_eq_true (by (with_reducible assumption))
       obtain ⟨ad166, e166, hx166_0, hx166_1, hx166_2⟩ := at_T65 HR0_0.out x4_1 p166 q166
       (try rw [← Nbq7.out] at hx166_2)
       cases e166
       replace hx166_0 := (HB.out.cell (wB_ w _ hx166_0)).trans hx166_0
       replace hx166_1 := (HB.out.cell (wB_ w _ hx166_1)).trans hx166_1
       replace hx166_2 := (HB.out.cell (wB_ w _ hx166_2)).trans hx166_2
       replace p166 := eq_true p166
       replace q166 := eq_true q166
       go_wp2_with (first | ((with_reducible refine gC_ (f := 60) rfl ?_); refine goesL_ (some 22) rfl rfl Try.func60 (by kernel_rfl) rfl #[.agg #[.slice (some ad166) l0_0.length c0_0], .int .i64 x4_1] rfl (by (try simp only [sD_, sE_, sF_]); rfl) ?_; (with_reducible refine (spec_l2Prefix.calls k1 _ _ l0_0 x4_1 t167 _ ?side1 ?side2 A9.out).mono ?_); (case side1 => repeat (first | exact (k4_ HR0_0.out HB.out) | (with_reducible refine Kd.C_alloc ?_ _) | (with_reducible refine Kd.C_drewN ?_ _) | (with_reducible refine Kd.C_drew ?_))); (case side2 => exact HC0_0.out); rintro e w12 ⟨rfl, hb⟩; refine ⟨_, rfl, ?_⟩; replace HO_3 := aM_ (kB_ HO_3.out hb); replace BK162 := aM_ (bB_ BK162.out hb); replace HB := aM_ (bT_ HB.out hb); (try clear hb)) | ((with_reducible refine gate_builtin (b := .append) (xs := #[.tmp 19, .tmp 23]) rfl ?_); at_builtin; refine Kd.R_append Kd.string (w0 := w) w.heap.size rfl (.tmp 19) (.tmp 23) 50 9 (.string ⟨#[]⟩) 16 rfl Try.underlying50 info9 rfl (by decide) (by omega) u3 x3_1 t167 [.string t167] (fun _ => True) (fun _ => False) rfl rfl ?aP (fun _ hk => hk.elim) ?aF ?aO ?aB ?aS ?aL ?_; (case aP => exact rfl); (case aB => exact HB.out); (case aF => exact (fun _ _ => trivial)); (case aO => exact HO_3.out); (case aS => exact (bZ_ HB.out)); (case aL => have := LMc10.out; omega); intro v169 w13 ho hb hg hat; rw [← Ny168.out] at ho; have n0_ := aM_ (blk_grown (g := gb162) (o := .cells #[.slice (some ad166) l0_0.length c0_0] 30 (0, 0)) BK162.out hg (k6_ HO_3.out BK162.out (by decide))); have n1_ := aM_ (hb); have n2_ := aM_ (ho); clear BK162; clear HB; clear HO_3; have BK162 := n0_; have HB := n1_; have HO170 := n2_; clear n0_ n1_ n2_; clear ho hb hg hat))
       go_roundg k1
       case measure => have := HK1.out; omega
       case rel => exact ⟨(y168), (wrap64 (x4_1 + 1)), (by rfl), H', ⟨by have := HK1.out; omega⟩, ⟨HO170.out⟩, ⟨BK162.out⟩, ⟨HB.out⟩⟩
      ·
       rw [if_neg c10] at H
       exact absurd H (by simp)
     ·
      replace c8 := Bool.eq_false_iff.mpr c8
      subst c8
      have H1 : (spec_l2Words.l0 k1 x3_1 (wrap64 (x4_1 + 1)) l0_0) = some r := by rw [if_neg (show ¬ (false = true) by decide)] at H; exact H
      clear H
      have H := H1
      clear H1
      have H' := aM_ H
      clear H
      have hcz14_0 : wr.cell? ⟨gb162, 0, none⟩ = some (.slice A0_0 l0_0.length c0_0) := (bC_ BK162.out 0).trans rfl
      have hfz14_0 := bF_ BK162.out 0
      have p166 : 0 ≤ (x4_1 : Int) := of_decide_eq_true (by (with_reducible assumption))
      have q166 : x4_1 < (l0_0.length : Int) := of_decide_eq_true (by (with_reducible assumption))
      obtain ⟨ad166, e166, hx166_0, hx166_1, hx166_2⟩ := at_T65 HR0_0.out x4_1 p166 q166
      (try rw [← Nbq7.out] at hx166_2)
      cases e166
      replace hx166_0 := (HB.out.cell (wB_ w _ hx166_0)).trans hx166_0
      replace hx166_1 := (HB.out.cell (wB_ w _ hx166_1)).trans hx166_1
      replace hx166_2 := (HB.out.cell (wB_ w _ hx166_2)).trans hx166_2
      replace p166 := eq_true p166
      replace q166 := eq_true q166
      go_wp2
      go_roundg k1
      case measure => have := HK1.out; omega
      case rel => exact ⟨(x3_1), (wrap64 (x4_1 + 1)), (by rfl), H', ⟨by have := HK1.out; omega⟩, ⟨HO_3.out⟩, ⟨BK162.out⟩, ⟨HB.out⟩⟩
    ·
     rw [if_neg c6] at H
     exact absurd H (by simp)
   ·
    rw [if_neg c5] at H
    have c5b0 := decide_eq_false c5
    clear c5
    obtain rfl := Option.some.inj H
    have hcz15_0 : wr.cell? ⟨gb162, 0, none⟩ = some (.slice A0_0 l0_0.length c0_0) := (bC_ BK162.out 0).trans rfl
    have hfz15_0 := bF_ BK162.out 0
    go_wp2
    go_ret
    exact ⟨_, by rfl, by exact HO_3.out, by exact HB.out⟩
end Go.Proofs.Ytnnkedeohfbkeaa.P
namespace Go.Proofs.Ytnnkedeohfbkeaa.P
open Go.RowKit Go.Proofs.YtnnkedeohfbkeaaW.PrintWords Go.Proofs.YtnnkedeohfbkeaaW.PrintLast Go.Proofs.YtnnkedeohfbkeaaW.PrintMore
attribute [local go_sem] max2_int min2_int max_two min_two max_three min_three max_four min_four
theorem eqA65 (d : Nat) (w : World) (x0 y0 : Int) (x1 y1 : Int) (x2 y2 : Bool) :
    (Op.equalIn (d + 2) 65 (.agg #[.int .i64 x0, .int .i64 x1, .bool x2]) (.agg #[.int .i64 y0, .int .i64 y1, .bool y2])).run Try.prog w = .ok (x0 == y0 && (x1 == y1 && (x2 == y2))) w := by
  refine eqA_of Try.underlying65 (by kernel_rfl) ?_
  refine eqf_cons (by rfl) (by go_simp; rfl) (by go_simp; rfl) (by go_simp) ?_
  refine eqf_cons (by rfl) (by go_simp; rfl) (by go_simp; rfl) (by go_simp) ?_
  exact eqf_last (by rfl) (by go_simp; rfl) (by go_simp; rfl) (by go_simp)
end Go.Proofs.Ytnnkedeohfbkeaa.P
namespace Go.Proofs.Ytnnkedeohfbkeaa.P
open Go.RowKit Go.Proofs.YtnnkedeohfbkeaaW.PrintWords Go.Proofs.YtnnkedeohfbkeaaW.PrintLast Go.Proofs.YtnnkedeohfbkeaaW.PrintMore
open Go.Proofs.YtnnkedeohfbkeaaW.PrintWords renaming blk_frozen → bF_, blk_cell → bC_, below_set → bS_, blk_below → bB_, below_step → bT_, pw_below_drewN → bN_, below_size → bZ_, below_drew1 → bD_, below_alloc → bA_, blk_far → bR_, gate_callee → gC_, gate_dst → gD_, box_event → bE_, blk_drew → b1_, blk_put → bP_, blk_drewN → b2_, blk_alloc → b3_, blk_lt → bL_, cell_far → cF_
open Go.Proofs.YtnnkedeohfbkeaaW.PrintLast renaming any_of → aO_, i64_w → i6_, i32_w → i3_, take_ofW → tW_
open Go.Proofs.YtnnkedeohfbkeaaW.PrintWords.Kd renaming R_below → kB_, R_mono → kM_, R_far → kF_, R_reads' → kR_, R_types → kT_, R_slice → kS_, R_celln → kC_, R_alloc → k1_, R_drewN → k2_, R_drew → k3_, C_below → k4_, R_lower → k5_, R_ne → k6_, own_blk → k7_
open Go.Proofs.YtnnkedeohfbkeaaW.PrintWords.LeO renaming none → l0_, bind → l1_, ite → l2_, refl → l3_
open World renaming block_lt_of_cell? → wB_
open _root_.Option renaming bind_eq_some_iff → oB_
open _root_.ByteArray renaming empty → eB_
open List renaming setIfInBounds_toArray → sA_, set_cons_zero → sB_, set_cons_succ → sC_, map_toArray → sD_, map_cons → sE_, map_nil → sF_, length_drop → sG_, length_take → sH_
open Bool renaming true → ty, false → fy
open Aside0 renaming mk → aM_
attribute [local go_sem] max2_int min2_int max_two min_two max_three min_three max_four min_four
attribute [local go_sem high] eqA65
mutual
def spec_l2Same.l0 : Nat → Int → List (S65) → List (S65) → Option (Bool)
 | 0, _, _, _ => none
 | k + 1, x5, x172000, x173000 => if x5 < (x172000.length : Int) then (spec_l2Same.j1 k x5 (decide (x5 < (x173000.length : Int))) x172000 x173000) else (spec_l2Same.j1 k x5 false x172000 x173000)
def spec_l2Same.j1 : Nat → Int → Bool → List (S65) → List (S65) → Option (Bool)
 | 0, _, _, _, _ => none
 | k + 1, x5, x17, x172000, x173000 => if x17 = true then (if 0 ≤ x5 then (if x5 < (x172000.length : Int) then (if x5 < (x173000.length : Int) then (if (!(((rd_T65 x172000 x5).f0) == ((rd_T65 x173000 x5).f0)) || (!(((rd_T65 x172000 x5).f1) == ((rd_T65 x173000 x5).f1)) || (!(((rd_T65 x172000 x5).f2) == ((rd_T65 x173000 x5).f2))))) = true then (some false) else (spec_l2Same.l0 k (wrap64 (x5 + 1)) x172000 x173000)) else (none)) else (none)) else (none)) else (some ((x172000.length : Int) == (x173000.length : Int)))
end
def spec_l2Same.f (k : Nat) (l0_0 : List (S65)) (l1_0 : List (S65)) : Option (Bool) := spec_l2Same.l0 k 0 l0_0 l1_0
theorem spec_l2Same.mono_l : ∀ k, (∀ y0 y1 y2, LeO (spec_l2Same.l0 k y0 y1 y2) (spec_l2Same.l0 (k + 1) y0 y1 y2)) ∧ (∀ y0 y1 y2 y3, LeO (spec_l2Same.j1 k y0 y1 y2 y3) (spec_l2Same.j1 (k + 1) y0 y1 y2 y3))
 | 0 => ⟨fun _ _ _ r h => by simp [spec_l2Same.l0] at h, fun _ _ _ _ r h => by simp [spec_l2Same.j1] at h⟩
 | k + 1 => by
  obtain ⟨ih0, ih1⟩ := spec_l2Same.mono_l k
  refine ⟨?_, ?_⟩
  ·
   intro y0 y1 y2
   unfold spec_l2Same.l0
   repeat' first
   | (with_reducible exact ih0 _ _ _)
   | (with_reducible exact ih1 _ _ _ _)
   | (with_reducible exact l3_ _)
   | (with_reducible exact l0_ _)
   | (with_reducible refine l2_ ?_ ?_)
   | (with_reducible refine l1_ ?_ (fun _ => ?_))
   | exact ih0 _ _ _
   | exact ih1 _ _ _ _
   | exact l0_ _
   | refine l2_ ?_ ?_
   | refine l1_ ?_ (fun _ => ?_)
  ·
   intro y0 y1 y2 y3
   unfold spec_l2Same.j1
   repeat' first
   | (with_reducible exact ih0 _ _ _)
   | (with_reducible exact ih1 _ _ _ _)
   | (with_reducible exact l3_ _)
   | (with_reducible exact l0_ _)
   | (with_reducible refine l2_ ?_ ?_)
   | (with_reducible refine l1_ ?_ (fun _ => ?_))
   | exact ih0 _ _ _
   | exact ih1 _ _ _ _
   | exact l0_ _
   | refine l2_ ?_ ?_
   | refine l1_ ?_ (fun _ => ?_)
theorem spec_l2Same.mono : ∀ a0 a1 k, LeO (spec_l2Same.f k a0 a1) (spec_l2Same.f (k + 1) a0 a1) := by
 intro a0 a1 k
 obtain ⟨ih0, ih1⟩ := spec_l2Same.mono_l k
 unfold spec_l2Same.f
 repeat' first
   | (with_reducible exact ih0 _ _ _)
   | (with_reducible exact ih1 _ _ _ _)
   | (with_reducible exact l3_ _)
   | (with_reducible exact l0_ _)
   | (with_reducible refine l2_ ?_ ?_)
   | (with_reducible refine l1_ ?_ (fun _ => ?_))
   | exact ih0 _ _ _
   | exact ih1 _ _ _ _
   | exact l0_ _
   | refine l2_ ?_ ?_
   | refine l1_ ?_ (fun _ => ?_)
theorem spec_l2Same.calls (k : Nat) (A0_0 : Option Addr) (c0_0 : Nat) (l0_0 : List (S65)) (A1_0 : Option Addr) (c1_0 : Nat) (l1_0 : List (S65)) (r : Bool) (w : World) (hr0_0 : Kd.C k65 w A0_0 l0_0.length l0_0) (hc0_0 : l0_0.length ≤ c0_0) (hr1_0 : Kd.C k65 w A1_0 l1_0.length l1_0) (hc1_0 : l1_0.length ≤ c1_0) (h : spec_l2Same.f k l0_0 l1_0 = some r) :
  Calls Try.prog 44 #[.agg #[.slice A0_0 l0_0.length c0_0], .agg #[.slice A1_0 l1_0.length c1_0]] w fun e w' => e = .returned (.bool r) ∧ Below w.heap.size w w' := by
 have hu30 := Try.underlying30
 have hu65 := Try.underlying65
 have HR0_0 := aM_ hr0_0
 have HC0_0 := aM_ hc0_0
 clear hr0_0 hc0_0
 have HR1_0 := aM_ hr1_0
 have HC1_0 := aM_ hc1_0
 clear hr1_0 hc1_0
 have HB := aM_ (Below.refl w.heap.size w)
 have H : (spec_l2Same.l0 k 0 l0_0 l1_0) = some r := h
 clear h
 have H' := aM_ H
 clear H
 go_enter Try.func44, Try.ntmps44
 go_wp2_with (first | ((with_reducible refine gD_ (N := 2) rfl ?_); (try (refine gate_guard (by rfl) ?_; dsimp only)); refine bE_ ?hg (N := 2) ?hd (cs := #[.slice A0_0 l0_0.length c0_0]) (t := 30) ?hr ?_; (case hd => rfl); (case hg => rfl); (case hr => (go_simp; done)); intro gb171 hg w3 hbox hb; have BK171 := aM_ (hbox); have GW171 := aM_ ((by rw [hg]; exact (bZ_ HB.out) : w.heap.size ≤ gb171)); have GE171 := GW171; replace HB := aM_ (bT_ HB.out hb); clear hb hbox hg) | ((with_reducible refine gD_ (N := 3) rfl ?_); (try (refine gate_guard (by rfl) ?_; dsimp only)); refine bE_ ?hg (N := 3) ?hd (cs := #[.slice A1_0 l1_0.length c1_0]) (t := 30) ?hr ?_; (case hd => rfl); (case hg => rfl); (case hr => (go_simp; done)); intro gb172 hg w4 hbox hb; have BK172 := aM_ (hbox); have GW172 := aM_ ((by rw [hg]; exact (bZ_ HB.out) : w.heap.size ≤ gb172)); have GE172 := GW172; replace HB := aM_ (bT_ HB.out hb); have NB171_172 := aM_ ((by rw [hg]; exact Nat.ne_of_lt (bL_ BK171.out) : gb171 ≠ gb172)); have NB172_171 := aM_ NB171_172.out.symm; replace BK171 := aM_ (bB_ BK171.out hb); clear hb hbox hg))
 repeat (go_quiet (first | ((with_reducible refine gD_ (N := 2) rfl ?_); (try (refine gate_guard (by rfl) ?_; dsimp only)); refine bE_ ?hg (N := 2) ?hd (cs := #[.slice A0_0 l0_0.length c0_0]) (t := 30) ?hr ?_; (case hd => rfl); (case hg => rfl); (case hr => first | (go_simp; done) | (go_simp; rfl)); intro gb171 hg w3 hbox hb; have BK171 := aM_ (hbox); have GW171 := aM_ ((by rw [hg]; exact (bZ_ (by repeat (first | (with_reducible first | exact HB.out | apply bA_ | apply bN_ | apply bD_) | exact HB.out))) : w.heap.size ≤ gb171)); have GE171 := GW171; replace HB := aM_ (bT_ (by repeat (first | (with_reducible first | exact HB.out | apply bA_ | apply bN_ | apply bD_) | exact HB.out)) hb); clear hb hbox hg) | ((with_reducible refine gD_ (N := 3) rfl ?_); (try (refine gate_guard (by rfl) ?_; dsimp only)); refine bE_ ?hg (N := 3) ?hd (cs := #[.slice A1_0 l1_0.length c1_0]) (t := 30) ?hr ?_; (case hd => rfl); (case hg => rfl); (case hr => first | (go_simp; done) | (go_simp; rfl)); intro gb172 hg w4 hbox hb; have BK172 := aM_ (hbox); have GW172 := aM_ ((by rw [hg]; exact (bZ_ (by repeat (first | (with_reducible first | exact HB.out | apply bA_ | apply bN_ | apply bD_ | refine bS_ ?_ GE171.out) | exact HB.out))) : w.heap.size ≤ gb172)); have GE172 := GW172; replace HB := aM_ (bT_ (by repeat (first | (with_reducible first | exact HB.out | apply bA_ | apply bN_ | apply bD_ | refine bS_ ?_ GE171.out) | exact HB.out)) hb); have NB171_172 := aM_ ((by rw [hg]; exact Nat.ne_of_lt (bL_ (g := gb171) (o := .cells #[.slice A0_0 l0_0.length c0_0] 30 (0, 0)) (by (with_reducible repeat (first | refine b2_ ?_ _ | refine b1_ ?_ | refine b3_ ?_ _)); exact BK171.out)) : gb171 ≠ gb172)); have NB172_171 := aM_ ((by rw [hg]; exact Nat.ne_of_gt (bL_ (g := gb171) (o := .cells #[.slice A0_0 l0_0.length c0_0] 30 (0, 0)) (by (with_reducible repeat (first | refine b2_ ?_ _ | refine b1_ ?_ | refine b3_ ?_ _)); exact BK171.out)) : gb172 ≠ gb171)); replace BK171 := aM_ (bB_ (g := gb171) (o := .cells #[.slice A0_0 l0_0.length c0_0] 30 (0, 0)) (by (with_reducible repeat (first | refine b2_ ?_ _ | refine b1_ ?_ | refine b3_ ?_ _)); exact BK171.out) hb); clear hb hbox hg)); try go_wp2_with (first | fail))
 go_loopg [5] k (fun kq v5 w' => ∃ (x5_1 : Int), v5 = .int .i64 x5_1 ∧ Aside0 (spec_l2Same.l0 kq x5_1 l0_0 l1_0 = some r) ∧ Aside0 (kq ≤ k) ∧ Aside0 (w'.heap[gb171]? = some (.cells #[(.slice A0_0 l0_0.length c0_0)] 30 (0, 0))) ∧ Aside0 (w'.heap[gb172]? = some (.cells #[(.slice A1_0 l1_0.length c1_0)] 30 (0, 0))) ∧ Aside0 (Below w.heap.size w w'))
 case atStart => exact ⟨(0), (by rfl), H', ⟨Nat.le_refl _⟩, ⟨BK171.out⟩, ⟨BK172.out⟩, ⟨HB.out⟩⟩
 case round =>
  clear H'
  try clear p2
  obtain ⟨x5_1, rfl, HA, HK1, BK171, BK172, HB⟩ := hrel
  cases gk with
  | zero => exact absurd HA.out (by simp [spec_l2Same.l0])
  | succ k1 =>
   have H := HA.out
   clear HA
   simp only [spec_l2Same.l0] at H
   have HC5 := aM_ H
   clear H
   go_upto_region 2 with (fail)
   repeat (go_quiet (fail); go_upto_region 2 with (fail))
   go_cut [17] (fun v17 wc => ∃ (kq : Nat) (x17_4 : Bool), v17 = .bool x17_4 ∧ Aside0 (spec_l2Same.j1 kq x5_1 x17_4 l0_0 l1_0 = some r) ∧ Aside0 (kq ≤ k1) ∧ Aside0 (wc.heap[gb171]? = some (.cells #[(.slice A0_0 l0_0.length c0_0)] 30 (0, 0))) ∧ Aside0 (wc.heap[gb172]? = some (.cells #[(.slice A1_0 l1_0.length c1_0)] 30 (0, 0))) ∧ Aside0 (Below w.heap.size w wc))
   case first =>
    have H := HC5.out
    clear HC5
    by_cases c6 : x5_1 < (l0_0.length : Int)
    ·
     rw [if_pos c6] at H
     have c6b0 := decide_eq_true c6
     clear c6
     (skip)
     have H' := aM_ H
     clear H
     have hnb7 := NB171_172.out
     have hnc7 := NB172_171.out
     have hcz8_0 : wr.cell? ⟨gb171, 0, none⟩ = some (.slice A0_0 l0_0.length c0_0) := (bC_ BK171.out 0).trans rfl
     have hfz8_0 := bF_ BK171.out 0
     have hcz9_0 : wr.cell? ⟨gb172, 0, none⟩ = some (.slice A1_0 l1_0.length c1_0) := (bC_ BK172.out 0).trans rfl
     have hfz9_0 := bF_ BK172.out 0
     go_wp2
     repeat (go_quiet (fail); try go_wp2)
     go_meet
     case rel => exact ⟨_, (decide (x5_1 < (l1_0.length : Int))), (by rfl), H', ⟨by have := HK1.out; omega⟩, ⟨BK171.out⟩, ⟨BK172.out⟩, ⟨HB.out⟩⟩
    ·
     rw [if_neg c6] at H
     have c6b0 := decide_eq_false c6
     clear c6
     (skip)
     have H' := aM_ H
     clear H
     have hnb10 := NB171_172.out
     have hnc10 := NB172_171.out
     have hcz11_0 : wr.cell? ⟨gb171, 0, none⟩ = some (.slice A0_0 l0_0.length c0_0) := (bC_ BK171.out 0).trans rfl
     have hfz11_0 := bF_ BK171.out 0
     go_wp2
     repeat (go_quiet (fail); try go_wp2)
     go_meet
     case rel => exact ⟨_, (false), (by rfl), H', ⟨by have := HK1.out; omega⟩, ⟨BK171.out⟩, ⟨BK172.out⟩, ⟨HB.out⟩⟩
   case rest =>
    clear HC5
    try clear p2
    try clear c6b0
    try clear hcz11_0
    try clear hcz8_0
    try clear hcz9_0
    try clear hfz11_0
    try clear hfz8_0
    try clear hfz9_0
    try clear p2
    obtain ⟨kq, x17_4, rfl, HA, HJ4, BK171, BK172, HB⟩ := hcut
    cases kq with
    | zero => exact absurd HA.out (by simp [spec_l2Same.j1])
    | succ kj4 =>
     have H := HA.out
     clear HA
     simp only [spec_l2Same.j1] at H
     by_cases c12 : x17_4 = true
     ·
      subst c12
      rw [if_pos rfl] at H
      by_cases c13 : 0 ≤ x5_1
      ·
       rw [if_pos c13] at H
       have c13b0 := decide_eq_true c13
       clear c13
       by_cases c14 : x5_1 < (l0_0.length : Int)
       ·
        rw [if_pos c14] at H
        have c14b0 := decide_eq_true c14
        clear c14
        by_cases c15 : x5_1 < (l1_0.length : Int)
        ·
         rw [if_pos c15] at H
         have c15b0 := decide_eq_true c15
         clear c15
         by_cases c16 : (!(((rd_T65 l0_0 x5_1).f0) == ((rd_T65 l1_0 x5_1).f0)) || (!(((rd_T65 l0_0 x5_1).f1) == ((rd_T65 l1_0 x5_1).f1)) || (!(((rd_T65 l0_0 x5_1).f2) == ((rd_T65 l1_0 x5_1).f2))))) = true
         ·
          rw [if_pos c16] at H
          have c16b0 : (!(((rd_T65 l0_0 x5_1).f0) == ((rd_T65 l1_0 x5_1).f0)) || (!(((rd_T65 l0_0 x5_1).f1) == ((rd_T65 l1_0 x5_1).f1)) || (!(((rd_T65 l0_0 x5_1).f2) == ((rd_T65 l1_0 x5_1).f2))))) = true := c16
          clear c16
          obtain rfl := Option.some.inj H
          have hnb17 := NB171_172.out
          have hnc17 := NB172_171.out
          have hcz18_0 : wc.cell? ⟨gb171, 0, none⟩ = some (.slice A0_0 l0_0.length c0_0) := (bC_ BK171.out 0).trans rfl
          have hfz18_0 := bF_ BK171.out 0
          have p173 : 0 ≤ (x5_1 : Int) := of_decide_eq_true (by (with_reducible assumption))
          have q173 : x5_1 < (l0_0.length : Int) := of_decide_eq_true (by (with_reducible assumption))
          obtain ⟨ad173, e173, hx173_0, hx173_1, hx173_2⟩ := at_T65 HR0_0.out x5_1 p173 q173
          cases e173
          replace hx173_0 := (HB.out.cell (wB_ w _ hx173_0)).trans hx173_0
          replace hx173_1 := (HB.out.cell (wB_ w _ hx173_1)).trans hx173_1
          replace hx173_2 := (HB.out.cell (wB_ w _ hx173_2)).trans hx173_2
          replace p173 := eq_true p173
          replace q173 := eq_true q173
          have hcz19_0 : wc.cell? ⟨gb172, 0, none⟩ = some (.slice A1_0 l1_0.length c1_0) := (bC_ BK172.out 0).trans rfl
          have hfz19_0 := bF_ BK172.out 0
          have p174 : 0 ≤ (x5_1 : Int) := of_decide_eq_true (by (with_reducible assumption))
          have q174 : x5_1 < (l1_0.length : Int) := of_decide_eq_true (by (with_reducible assumption))
          obtain ⟨ad174, e174, hx174_0, hx174_1, hx174_2⟩ := at_T65 HR1_0.out x5_1 p174 q174
          cases e174
          replace hx174_0 := (HB.out.cell (wB_ w _ hx174_0)).trans hx174_0
          replace hx174_1 := (HB.out.cell (wB_ w _ hx174_1)).trans hx174_1
          replace hx174_2 := (HB.out.cell (wB_ w _ hx174_2)).trans hx174_2
          replace p174 := eq_true p174
          replace q174 := eq_true q174
          go_wp2
          repeat (go_quiet (fail); try go_wp2)
          go_ret
          exact ⟨by rfl, by repeat (first | (with_reducible first | exact HB.out | apply bA_ | apply bN_ | apply bD_ | refine bS_ ?_ GE171.out | refine bS_ ?_ GE172.out) | exact HB.out)⟩
         ·
          rw [if_neg c16] at H
          have c16b0 : (!(((rd_T65 l0_0 x5_1).f0) == ((rd_T65 l1_0 x5_1).f0)) || (!(((rd_T65 l0_0 x5_1).f1) == ((rd_T65 l1_0 x5_1).f1)) || (!(((rd_T65 l0_0 x5_1).f2) == ((rd_T65 l1_0 x5_1).f2))))) = false := by simpa using c16
          clear c16
          have H' := aM_ H
          clear H
          have hnb20 := NB171_172.out
          have hnc20 := NB172_171.out
          have hcz21_0 : wc.cell? ⟨gb171, 0, none⟩ = some (.slice A0_0 l0_0.length c0_0) := (bC_ BK171.out 0).trans rfl
          have hfz21_0 := bF_ BK171.out 0
          have p173 : 0 ≤ (x5_1 : Int) := of_decide_eq_true (by (with_reducible assumption))
          have q173 : x5_1 < (l0_0.length : Int) := of_decide_eq_true (by (with_reducible assumption))
          obtain ⟨ad173, e173, hx173_0, hx173_1, hx173_2⟩ := at_T65 HR0_0.out x5_1 p173 q173
          cases e173
          replace hx173_0 := (HB.out.cell (wB_ w _ hx173_0)).trans hx173_0
          replace hx173_1 := (HB.out.cell (wB_ w _ hx173_1)).trans hx173_1
          replace hx173_2 := (HB.out.cell (wB_ w _ hx173_2)).trans hx173_2
          replace p173 := eq_true p173
          replace q173 := eq_true q173
          have hcz22_0 : wc.cell? ⟨gb172, 0, none⟩ = some (.slice A1_0 l1_0.length c1_0) := (bC_ BK172.out 0).trans rfl
          have hfz22_0 := bF_ BK172.out 0
          have p174 : 0 ≤ (x5_1 : Int) := of_decide_eq_true (by (with_reducible assumption))
          have q174 : x5_1 < (l1_0.length : Int) := of_decide_eq_true (by (with_reducible assumption))
          obtain ⟨ad174, e174, hx174_0, hx174_1, hx174_2⟩ := at_T65 HR1_0.out x5_1 p174 q174
          cases e174
          replace hx174_0 := (HB.out.cell (wB_ w _ hx174_0)).trans hx174_0
          replace hx174_1 := (HB.out.cell (wB_ w _ hx174_1)).trans hx174_1
          replace hx174_2 := (HB.out.cell (wB_ w _ hx174_2)).trans hx174_2
          replace p174 := eq_true p174
          replace q174 := eq_true q174
          go_wp2
          repeat (go_quiet (fail); try go_wp2)
          go_roundg kj4
          case measure => have := HK1.out; have := HJ4.out; omega
          case rel => exact ⟨(wrap64 (x5_1 + 1)), (by rfl), H', ⟨by have := HK1.out; have := HJ4.out; omega⟩, ⟨by (with_reducible repeat (first | refine b2_ ?_ _ | refine b1_ ?_ | refine b3_ ?_ _)); exact BK171.out⟩, ⟨by (with_reducible repeat (first | refine b2_ ?_ _ | refine b1_ ?_ | refine b3_ ?_ _)); exact BK172.out⟩, ⟨by repeat (first | (with_reducible first | exact HB.out | apply bA_ | apply bN_ | apply bD_ | refine bS_ ?_ GE171.out | refine bS_ ?_ GE172.out) | exact HB.out)⟩⟩
        ·
         rw [if_neg c15] at H
         exact absurd H (by simp)
       ·
        rw [if_neg c14] at H
        exact absurd H (by simp)
      ·
       rw [if_neg c13] at H
       exact absurd H (by simp)
     ·
      replace c12 := Bool.eq_false_iff.mpr c12
      subst c12
      have H1 : (some ((l0_0.length : Int) == (l1_0.length : Int))) = some r := by rw [if_neg (show ¬ (false = true) by decide)] at H; exact H
      clear H
      have H := H1
      clear H1
      obtain rfl := Option.some.inj H
      have hnb23 := NB171_172.out
      have hnc23 := NB172_171.out
      have hcz24_0 : wc.cell? ⟨gb171, 0, none⟩ = some (.slice A0_0 l0_0.length c0_0) := (bC_ BK171.out 0).trans rfl
      have hfz24_0 := bF_ BK171.out 0
      have hcz25_0 : wc.cell? ⟨gb172, 0, none⟩ = some (.slice A1_0 l1_0.length c1_0) := (bC_ BK172.out 0).trans rfl
      have hfz25_0 := bF_ BK172.out 0
      go_wp2
      repeat (go_quiet (fail); try go_wp2)
      go_ret
      exact ⟨by rfl, by exact HB.out⟩
end Go.Proofs.Ytnnkedeohfbkeaa.P
namespace Go.Proofs.Ytnnkedeohfbkeaa.P
open Go.RowKit Go.Proofs.YtnnkedeohfbkeaaW.PrintWords Go.Proofs.YtnnkedeohfbkeaaW.PrintLast Go.Proofs.YtnnkedeohfbkeaaW.PrintMore
open Go.Proofs.YtnnkedeohfbkeaaW.PrintWords renaming blk_frozen → bF_, blk_cell → bC_, below_set → bS_, blk_below → bB_, below_step → bT_, pw_below_drewN → bN_, below_size → bZ_, below_drew1 → bD_, below_alloc → bA_, blk_far → bR_, gate_callee → gC_, gate_dst → gD_, box_event → bE_, blk_drew → b1_, blk_put → bP_, blk_drewN → b2_, blk_alloc → b3_, blk_lt → bL_, cell_far → cF_
open Go.Proofs.YtnnkedeohfbkeaaW.PrintLast renaming any_of → aO_, i64_w → i6_, i32_w → i3_, take_ofW → tW_
open Go.Proofs.YtnnkedeohfbkeaaW.PrintWords.Kd renaming R_below → kB_, R_mono → kM_, R_far → kF_, R_reads' → kR_, R_types → kT_, R_slice → kS_, R_celln → kC_, R_alloc → k1_, R_drewN → k2_, R_drew → k3_, C_below → k4_, R_lower → k5_, R_ne → k6_, own_blk → k7_
open Go.Proofs.YtnnkedeohfbkeaaW.PrintWords.LeO renaming none → l0_, bind → l1_, ite → l2_, refl → l3_
open World renaming block_lt_of_cell? → wB_
open _root_.Option renaming bind_eq_some_iff → oB_
open _root_.ByteArray renaming empty → eB_
open List renaming setIfInBounds_toArray → sA_, set_cons_zero → sB_, set_cons_succ → sC_, map_toArray → sD_, map_cons → sE_, map_nil → sF_, length_drop → sG_, length_take → sH_
open Bool renaming true → ty, false → fy
open Aside0 renaming mk → aM_
attribute [local go_sem] max2_int min2_int max_two min_two max_three min_three max_four min_four
def spec_l2Has.l0 : Nat → List ByteArray → ByteArray → Int → Option (Bool)
 | 0, _, _, _ => none
 | k + 1, x0, x1, x5 => if x5 < (x0.length : Int) then (if 0 ≤ x5 then (if (rdOf eB_ x0 x5).toList = x1.toList then (some true) else (spec_l2Has.l0 k x0 x1 (wrap64 (x5 + 1)))) else (none)) else (some false)
def spec_l2Has.f (k : Nat) (l0 : List ByteArray) (a1 : ByteArray) : Option (Bool) := spec_l2Has.l0 k l0 a1 0
theorem spec_l2Has.mono_l : ∀ k, (∀ y0 y1 y2, LeO (spec_l2Has.l0 k y0 y1 y2) (spec_l2Has.l0 (k + 1) y0 y1 y2))
 | 0 => fun _ _ _ r h => by simp [spec_l2Has.l0] at h
 | k + 1 => by
  have ih0 := spec_l2Has.mono_l k
  ·
   intro y0 y1 y2
   unfold spec_l2Has.l0
   repeat' first
   | (with_reducible exact ih0 _ _ _)
   | (with_reducible exact l3_ _)
   | (with_reducible exact l0_ _)
   | (with_reducible refine l2_ ?_ ?_)
   | (with_reducible refine l1_ ?_ (fun _ => ?_))
   | exact ih0 _ _ _
   | exact l0_ _
   | refine l2_ ?_ ?_
   | refine l1_ ?_ (fun _ => ?_)
theorem spec_l2Has.mono : ∀ a0 a1 k, LeO (spec_l2Has.f k a0 a1) (spec_l2Has.f (k + 1) a0 a1) := by
 intro a0 a1 k
 have ih0 := spec_l2Has.mono_l k
 unfold spec_l2Has.f
 repeat' first
   | (with_reducible exact ih0 _ _ _)
   | (with_reducible exact l3_ _)
   | (with_reducible exact l0_ _)
   | (with_reducible refine l2_ ?_ ?_)
   | (with_reducible refine l1_ ?_ (fun _ => ?_))
   | exact ih0 _ _ _
   | exact l0_ _
   | refine l2_ ?_ ?_
   | refine l1_ ?_ (fun _ => ?_)
theorem spec_l2Has.calls (k : Nat) (A0 : Option Addr) (c0 : Nat) (l0 : List ByteArray) (a1 : ByteArray) (r : Bool) (w : World) (hr0 : Kd.C Kd.string w A0 l0.length l0) (hc0 : l0.length ≤ c0) (h : spec_l2Has.f k l0 a1 = some r) :
  Calls Try.prog 61 #[.slice A0 l0.length c0, .string a1] w fun e w' => e = .returned (.bool r) ∧ Drawn0 w w' := by
 have HR0 := aM_ hr0
 have HC0 := aM_ hc0
 clear hr0 hc0
 have H : (spec_l2Has.l0 k l0 a1 0) = some r := h
 clear h
 have H' := aM_ H
 clear H
 go_enter Try.func61, Try.ntmps61
 go_wp2
 go_loopg [5] k (fun kq v5 w' => ∃ (x5_1 : Int), v5 = .int .i64 x5_1 ∧ Aside0 (spec_l2Has.l0 kq l0 a1 x5_1 = some r) ∧ Aside0 (kq ≤ k) ∧ Drawn0 w w')
 case atStart => exact ⟨(0), (by rfl), H', ⟨Nat.le_refl _⟩, by repeat (first | exact Drawn0.refl _ | apply Drawn0.step)⟩
 case round =>
  clear H'
  try clear p2
  obtain ⟨x5_1, rfl, HA, HK1, ⟨m1, rfl⟩⟩ := hrel
  cases gk with
  | zero => exact absurd HA.out (by simp [spec_l2Has.l0])
  | succ k1 =>
   have H := HA.out
   clear HA
   simp only [spec_l2Has.l0] at H
   by_cases c3 : x5_1 < (l0.length : Int)
   ·
    rw [if_pos c3] at H
    have c3b0 := decide_eq_true c3
    clear c3
    by_cases c4 : 0 ≤ x5_1
    ·
     rw [if_pos c4] at H
     have c4b0 := decide_eq_true c4
     clear c4
     by_cases c5 : (rdOf eB_ l0 x5_1).toList = a1.toList
     ·
      rw [if_pos c5] at H
      have c5b0 : ((rdOf eB_ l0 x5_1).toList == a1.toList) = true := beq_iff_eq.mpr c5
      have c5b1 : ((rdOf eB_ l0 x5_1).toList != a1.toList) = false := bne_eq_false_iff_eq.mpr c5
      clear c5
      obtain rfl := Option.some.inj H
      have p175 : 0 ≤ (x5_1 : Int) := of_decide_eq_true (by (with_reducible assumption))
      have q175 : x5_1 < (l0.length : Int) := of_decide_eq_true (by (with_reducible assumption))
      obtain ⟨ad175, e175, hx175_0⟩ := Kd.at_string HR0.out x5_1 p175 q175
      cases e175
      replace p175 := eq_true p175
      replace q175 := eq_true q175
      go_wp2
      go_ret
      exact ⟨by rfl, by repeat (first | exact Drawn0.refl _ | apply Drawn0.step)⟩
     ·
      rw [if_neg c5] at H
      have c5b0 : ((rdOf eB_ l0 x5_1).toList == a1.toList) = false := beq_eq_false_iff_ne.mpr c5
      have c5b1 : ((rdOf eB_ l0 x5_1).toList != a1.toList) = true := bne_iff_ne.mpr c5
      have H' := aM_ H
      clear H
      have p175 : 0 ≤ (x5_1 : Int) := of_decide_eq_true (by (with_reducible assumption))
      have q175 : x5_1 < (l0.length : Int) := of_decide_eq_true (by (with_reducible assumption))
      obtain ⟨ad175, e175, hx175_0⟩ := Kd.at_string HR0.out x5_1 p175 q175
      cases e175
      replace p175 := eq_true p175
      replace q175 := eq_true q175
      go_wp2
      go_roundg k1
      case measure => have := HK1.out; omega
      case rel => exact ⟨(wrap64 (x5_1 + 1)), (by rfl), H', ⟨by have := HK1.out; omega⟩, by repeat (first | exact Drawn0.refl _ | apply Drawn0.step)⟩
    ·
     rw [if_neg c4] at H
     exact absurd H (by simp)
   ·
    rw [if_neg c3] at H
    have c3b0 := decide_eq_false c3
    clear c3
    obtain rfl := Option.some.inj H
    go_wp2
    go_ret
    exact ⟨by rfl, by repeat (first | exact Drawn0.refl _ | apply Drawn0.step)⟩
def spec_l2Place.l0 : Nat → List ByteArray → ByteArray → Int → Option (Int)
 | 0, _, _, _ => none
 | k + 1, x0, x1, x5 => if x5 < (x0.length : Int) then (if 0 ≤ x5 then (if (rdOf eB_ x0 x5).toList = x1.toList then (some x5) else (spec_l2Place.l0 k x0 x1 (wrap64 (x5 + 1)))) else (none)) else (some (-1))
def spec_l2Place.f (k : Nat) (l0 : List ByteArray) (a1 : ByteArray) : Option (Int) := spec_l2Place.l0 k l0 a1 0
theorem spec_l2Place.mono_l : ∀ k, (∀ y0 y1 y2, LeO (spec_l2Place.l0 k y0 y1 y2) (spec_l2Place.l0 (k + 1) y0 y1 y2))
 | 0 => fun _ _ _ r h => by simp [spec_l2Place.l0] at h
 | k + 1 => by
  have ih0 := spec_l2Place.mono_l k
  ·
   intro y0 y1 y2
   unfold spec_l2Place.l0
   repeat' first
   | (with_reducible exact ih0 _ _ _)
   | (with_reducible exact l3_ _)
   | (with_reducible exact l0_ _)
   | (with_reducible refine l2_ ?_ ?_)
   | (with_reducible refine l1_ ?_ (fun _ => ?_))
   | exact ih0 _ _ _
   | exact l0_ _
   | refine l2_ ?_ ?_
   | refine l1_ ?_ (fun _ => ?_)
theorem spec_l2Place.mono : ∀ a0 a1 k, LeO (spec_l2Place.f k a0 a1) (spec_l2Place.f (k + 1) a0 a1) := by
 intro a0 a1 k
 have ih0 := spec_l2Place.mono_l k
 unfold spec_l2Place.f
 repeat' first
   | (with_reducible exact ih0 _ _ _)
   | (with_reducible exact l3_ _)
   | (with_reducible exact l0_ _)
   | (with_reducible refine l2_ ?_ ?_)
   | (with_reducible refine l1_ ?_ (fun _ => ?_))
   | exact ih0 _ _ _
   | exact l0_ _
   | refine l2_ ?_ ?_
   | refine l1_ ?_ (fun _ => ?_)
theorem spec_l2Place.calls (k : Nat) (A0 : Option Addr) (c0 : Nat) (l0 : List ByteArray) (a1 : ByteArray) (r : Int) (w : World) (hr0 : Kd.C Kd.string w A0 l0.length l0) (hc0 : l0.length ≤ c0) (h : spec_l2Place.f k l0 a1 = some r) :
  Calls Try.prog 62 #[.slice A0 l0.length c0, .string a1] w fun e w' => e = .returned (.int .i64 r) ∧ Drawn0 w w' := by
 have HR0 := aM_ hr0
 have HC0 := aM_ hc0
 clear hr0 hc0
 have H : (spec_l2Place.l0 k l0 a1 0) = some r := h
 clear h
 have H' := aM_ H
 clear H
 go_enter Try.func62, Try.ntmps62
 go_wp2
 go_loopg [5] k (fun kq v5 w' => ∃ (x5_1 : Int), v5 = .int .i64 x5_1 ∧ Aside0 (spec_l2Place.l0 kq l0 a1 x5_1 = some r) ∧ Aside0 (kq ≤ k) ∧ Drawn0 w w')
 case atStart => exact ⟨(0), (by rfl), H', ⟨Nat.le_refl _⟩, by repeat (first | exact Drawn0.refl _ | apply Drawn0.step)⟩
 case round =>
  clear H'
  try clear p2
  obtain ⟨x5_1, rfl, HA, HK1, ⟨m1, rfl⟩⟩ := hrel
  cases gk with
  | zero => exact absurd HA.out (by simp [spec_l2Place.l0])
  | succ k1 =>
   have H := HA.out
   clear HA
   simp only [spec_l2Place.l0] at H
   by_cases c3 : x5_1 < (l0.length : Int)
   ·
    rw [if_pos c3] at H
    have c3b0 := decide_eq_true c3
    clear c3
    by_cases c4 : 0 ≤ x5_1
    ·
     rw [if_pos c4] at H
     have c4b0 := decide_eq_true c4
     clear c4
     by_cases c5 : (rdOf eB_ l0 x5_1).toList = a1.toList
     ·
      rw [if_pos c5] at H
      have c5b0 : ((rdOf eB_ l0 x5_1).toList == a1.toList) = true := beq_iff_eq.mpr c5
      have c5b1 : ((rdOf eB_ l0 x5_1).toList != a1.toList) = false := bne_eq_false_iff_eq.mpr c5
      clear c5
      obtain rfl := Option.some.inj H
      have p176 : 0 ≤ (x5_1 : Int) := of_decide_eq_true (by (with_reducible assumption))
      have q176 : x5_1 < (l0.length : Int) := of_decide_eq_true (by (with_reducible assumption))
      obtain ⟨ad176, e176, hx176_0⟩ := Kd.at_string HR0.out x5_1 p176 q176
      cases e176
      replace p176 := eq_true p176
      replace q176 := eq_true q176
      go_wp2
      go_ret
      exact ⟨by rfl, by repeat (first | exact Drawn0.refl _ | apply Drawn0.step)⟩
     ·
      rw [if_neg c5] at H
      have c5b0 : ((rdOf eB_ l0 x5_1).toList == a1.toList) = false := beq_eq_false_iff_ne.mpr c5
      have c5b1 : ((rdOf eB_ l0 x5_1).toList != a1.toList) = true := bne_iff_ne.mpr c5
      have H' := aM_ H
      clear H
      have p176 : 0 ≤ (x5_1 : Int) := of_decide_eq_true (by (with_reducible assumption))
      have q176 : x5_1 < (l0.length : Int) := of_decide_eq_true (by (with_reducible assumption))
      obtain ⟨ad176, e176, hx176_0⟩ := Kd.at_string HR0.out x5_1 p176 q176
      cases e176
      replace p176 := eq_true p176
      replace q176 := eq_true q176
      go_wp2
      go_roundg k1
      case measure => have := HK1.out; omega
      case rel => exact ⟨(wrap64 (x5_1 + 1)), (by rfl), H', ⟨by have := HK1.out; omega⟩, by repeat (first | exact Drawn0.refl _ | apply Drawn0.step)⟩
    ·
     rw [if_neg c4] at H
     exact absurd H (by simp)
   ·
    rw [if_neg c3] at H
    have c3b0 := decide_eq_false c3
    clear c3
    obtain rfl := Option.some.inj H
    go_wp2
    go_ret
    exact ⟨by rfl, by repeat (first | exact Drawn0.refl _ | apply Drawn0.step)⟩
def spec_l7Kids.l0 : Nat → List (List Int) → Int → List (S65) → Option ((List (List Int)))
 | 0, _, _, _ => none
 | k + 1, x3, x4, x217000 => if x4 < (x217000.length : Int) then (if 0 ≤ x4 then (if 0 ≤ ((rd_T65 x217000 x4).f1) then (if ((rd_T65 x217000 x4).f1) < (x3.length : Int) then (if (rd_L7 x3 ((rd_T65 x217000 x4).f1)).length < 17592186044416 then (spec_l7Kids.l0 k (x3.set (((rd_T65 x217000 x4).f1) : Int).toNat ((rd_L7 x3 ((rd_T65 x217000 x4).f1)) ++ [x4])) (wrap64 (x4 + 1)) x217000) else (none)) else (none)) else (none)) else (none)) else (some x3)
def spec_l7Kids.f (k : Nat) (l0_0 : List (S65)) : Option ((List (List Int))) := if 0 ≤ (l0_0.length : Int) then (if ((l0_0.length : Int) : Int).toNat ≤ 11728124029610 then (spec_l7Kids.l0 k (List.replicate ((l0_0.length : Int) : Int).toNat []) 1 l0_0) else (none)) else (none)
theorem spec_l7Kids.mono_l : ∀ k, (∀ y0 y1 y2, LeO (spec_l7Kids.l0 k y0 y1 y2) (spec_l7Kids.l0 (k + 1) y0 y1 y2))
 | 0 => fun _ _ _ r h => by simp [spec_l7Kids.l0] at h
 | k + 1 => by
  have ih0 := spec_l7Kids.mono_l k
  ·
   intro y0 y1 y2
   unfold spec_l7Kids.l0
   repeat' first
   | (with_reducible exact ih0 _ _ _)
   | (with_reducible exact l3_ _)
   | (with_reducible exact l0_ _)
   | (with_reducible refine l2_ ?_ ?_)
   | (with_reducible refine l1_ ?_ (fun _ => ?_))
   | exact ih0 _ _ _
   | exact l0_ _
   | refine l2_ ?_ ?_
   | refine l1_ ?_ (fun _ => ?_)
theorem spec_l7Kids.mono : ∀ a0 k, LeO (spec_l7Kids.f k a0) (spec_l7Kids.f (k + 1) a0) := by
 intro a0 k
 have ih0 := spec_l7Kids.mono_l k
 unfold spec_l7Kids.f
 repeat' first
   | (with_reducible exact ih0 _ _ _)
   | (with_reducible exact l3_ _)
   | (with_reducible exact l0_ _)
   | (with_reducible refine l2_ ?_ ?_)
   | (with_reducible refine l1_ ?_ (fun _ => ?_))
   | exact ih0 _ _ _
   | exact l0_ _
   | refine l2_ ?_ ?_
   | refine l1_ ?_ (fun _ => ?_)
theorem spec_l7Kids.calls (k : Nat) (A0_0 : Option Addr) (c0_0 : Nat) (l0_0 : List (S65)) (r : List (List Int)) (w : World) (hr0_0 : Kd.C k65 w A0_0 l0_0.length l0_0) (hc0_0 : l0_0.length ≤ c0_0) (h : spec_l7Kids.f k l0_0 = some r) :
  Calls Try.prog 35 #[.agg #[.slice A0_0 l0_0.length c0_0]] w fun e w' => ∃ v0_ : Value, e = .returned (v0_) ∧ Kd.S (Kd.slice 3 (Kd.int .i64)) 47 w' w.heap.size (fun _ => True) v0_ r ∧ Below w.heap.size w w' := by
 have hu30 := Try.underlying30
 have HR0_0 := aM_ hr0_0
 have HC0_0 := aM_ hc0_0
 clear hr0_0 hc0_0
 have HB := aM_ (Below.refl w.heap.size w)
 have H : (if 0 ≤ (l0_0.length : Int) then (if ((l0_0.length : Int) : Int).toNat ≤ 11728124029610 then (spec_l7Kids.l0 k (List.replicate ((l0_0.length : Int) : Int).toNat []) 1 l0_0) else (none)) else (none)) = some r := h
 clear h
 by_cases c2 : 0 ≤ (l0_0.length : Int)
 rotate_left
 ·
  rw [if_neg c2] at H
  exact absurd H (by simp)
 rw [if_pos c2] at H
 have c2b0 := eq_true c2
 have c2b1 := decide_eq_true c2
 clear c2
 by_cases c3 : ((l0_0.length : Int) : Int).toNat ≤ 11728124029610
 rotate_left
 ·
  rw [if_neg c3] at H
  exact absurd H (by simp)
 rw [if_pos c3] at H
 have c3b0 := eq_true c3
 have c3b1 := decide_eq_true c3
 clear c3
 obtain ⟨y217, hy217⟩ : ∃ y_ : List (List Int), y_ = (List.replicate ((l0_0.length : Int) : Int).toNat []) := ⟨_, rfl⟩
 replace H : (spec_l7Kids.l0 k y217 1 l0_0) = some r := by first | (rw [hy217]; with_reducible exact H) | (have H2_ := (Option.bind_some _ _).symm.trans H; rw [hy217]; with_reducible exact H2_) | (have H2_ := (Option.bind_some _ _).symm.trans H; with_reducible exact H2_) | with_reducible exact H | (rw [hy217]; exact H) | exact H
 have Ny217 := aM_ hy217
 clear hy217
 have H' := aM_ H
 clear H
 go_enter Try.func35, Try.ntmps35
 go_wp2_with (first | ((with_reducible refine gD_ (N := 1) rfl ?_); refine bE_ ?hg (N := 1) ?hd (cs := #[.slice A0_0 l0_0.length c0_0]) (t := 30) ?hr ?_; (case hd => rfl); (case hg => rfl); (case hr => (go_simp; done)); intro gb216 hg w4 hbox hb; have BK216 := aM_ (hbox); have GW216 := aM_ ((by rw [hg]; exact (bZ_ HB.out) : w.heap.size ≤ gb216)); have GE216 := GW216; replace HB := aM_ (bT_ HB.out hb); clear hb hbox hg; have hcz5_0 : w4.cell? ⟨gb216, 0, none⟩ = some (.slice A0_0 l0_0.length c0_0) := (bC_ BK216.out 0).trans rfl; have hfz5_0 := bF_ BK216.out 0) | ((with_reducible refine gD_ (N := 9) rfl ?_); refine Kd.S_make (Kd.slice 3 (Kd.int .i64)) _ 47 rfl (N := 9) rfl 61 _ _ rfl (l0_0.length : Int) rfl rfl Try.underlying61 (.slice none 0 0) 24 info47 rfl (by decide) (by omega) [] (ok := fun _ => True) (okp := fun _ => True) ⟨_, rfl, Kd.R_nil _ _ _ _ _⟩ (fun _ hk => hk) trivial (of_decide_eq_true (by (with_reducible assumption))) (Nat.le_trans (Nat.mul_le_mul_right _ (of_decide_eq_true (by (with_reducible assumption)) : (l0_0.length : Int).toNat ≤ 11728124029610)) (by omega)) (Below.refl _ _) (Nat.le_refl _) ?_; intro v218 w6 ho7 hb hg_ hnew_; clear hg_ hnew_; (rw [← Ny217.out] at ho7); have HO219 := aM_ (Kd.S_lower ho7 (bZ_ HB.out)); replace BK216 := aM_ (bB_ BK216.out hb); replace HB := aM_ (bT_ HB.out hb); clear hb ho7))
 go_loopg [4] k (fun kq v4 w' => ∃ (x3_1 : List (List Int)) (x4_1 : Int), v4 = .int .i64 x4_1 ∧ Aside0 (spec_l7Kids.l0 kq x3_1 x4_1 l0_0 = some r) ∧ Aside0 (kq ≤ k) ∧ Aside0 (Kd.S (Kd.slice 3 (Kd.int .i64)) 47 w' w.heap.size (fun _ => True) v218 x3_1) ∧ Aside0 (w'.heap[gb216]? = some (.cells #[(.slice A0_0 l0_0.length c0_0)] 30 (0, 0))) ∧ Aside0 (Below w.heap.size w w'))
 case atStart => exact ⟨(y217), (1), (by rfl), H', ⟨Nat.le_refl _⟩, ⟨by (with_reducible repeat (first | apply Kd.S_alloc | apply Kd.S_drewN | apply Kd.S_drew)); exact HO219.out⟩, ⟨BK216.out⟩, ⟨HB.out⟩⟩
 case round =>
  clear H'
  try clear c2b0
  try clear c2b1
  try clear p2
  try clear c3b0
  try clear c3b1
  try clear hcz5_0
  try clear hfz5_0
  obtain ⟨x3_1, x4_1, rfl, HA, HK1, HO_3, BK216, HB⟩ := hrel
  cases gk with
  | zero => exact absurd HA.out (by simp [spec_l7Kids.l0])
  | succ k1 =>
   have H := HA.out
   clear HA
   simp only [spec_l7Kids.l0] at H
   by_cases c8 : x4_1 < (l0_0.length : Int)
   ·
    rw [if_pos c8] at H
    have c8b0 := decide_eq_true c8
    clear c8
    by_cases c9 : 0 ≤ x4_1
    ·
     rw [if_pos c9] at H
     have c9b0 := decide_eq_true c9
     clear c9
     by_cases c10 : 0 ≤ ((rd_T65 l0_0 x4_1).f1)
     ·
      rw [if_pos c10] at H
      have c10b0 := decide_eq_true c10
      clear c10
      by_cases c11 : ((rd_T65 l0_0 x4_1).f1) < (x3_1.length : Int)
      ·
       rw [if_pos c11] at H
       have c11b0 := decide_eq_true c11
       clear c11
       by_cases c12 : (rd_L7 x3_1 ((rd_T65 l0_0 x4_1).f1)).length < 17592186044416
       ·
        rw [if_pos c12] at H
        have LMc12 := aM_ c12
        clear c12
        obtain ⟨y222, hy222⟩ : ∃ y_ : List Int, y_ = ((rd_L7 x3_1 ((rd_T65 l0_0 x4_1).f1)) ++ [x4_1]) := ⟨_, rfl⟩
        replace H : (spec_l7Kids.l0 k1 (x3_1.set (((rd_T65 l0_0 x4_1).f1) : Int).toNat y222) (wrap64 (x4_1 + 1)) l0_0) = some r := by first | (rw [hy222]; with_reducible exact H) | (have H2_ := (Option.bind_some _ _).symm.trans H; rw [hy222]; with_reducible exact H2_) | (have H2_ := (Option.bind_some _ _).symm.trans H; with_reducible exact H2_) | with_reducible exact H | (rw [hy222]; exact H) | exact H
        have Ny222 := aM_ hy222
        clear hy222
        obtain ⟨y225, hy225⟩ : ∃ y_ : List (List Int), y_ = (x3_1.set (((rd_T65 l0_0 x4_1).f1) : Int).toNat y222) := ⟨_, rfl⟩
        replace H : (spec_l7Kids.l0 k1 y225 (wrap64 (x4_1 + 1)) l0_0) = some r := by first | (rw [hy225]; with_reducible exact H) | (have H2_ := (Option.bind_some _ _).symm.trans H; rw [hy225]; with_reducible exact H2_) | (have H2_ := (Option.bind_some _ _).symm.trans H; with_reducible exact H2_) | with_reducible exact H | (rw [hy225]; exact H) | exact H
        have Ny225 := aM_ hy225
        clear hy225
        have H' := aM_ H
        clear H
        have hcz14_0 : wr.cell? ⟨gb216, 0, none⟩ = some (.slice A0_0 l0_0.length c0_0) := (bC_ BK216.out 0).trans rfl
        have hfz14_0 := bF_ BK216.out 0
        have p220 : 0 ≤ (x4_1 : Int) := of_decide_eq_true (by (with_reducible assumption))
        have q220 : x4_1 < (l0_0.length : Int) := of_decide_eq_true (by (with_reducible assumption))
        obtain ⟨ad220, e220, hx220_0, hx220_1, hx220_2⟩ := at_T65 HR0_0.out x4_1 p220 q220
        cases e220
        replace hx220_0 := (HB.out.cell (wB_ w _ hx220_0)).trans hx220_0
        replace hx220_1 := (HB.out.cell (wB_ w _ hx220_1)).trans hx220_1
        replace hx220_2 := (HB.out.cell (wB_ w _ hx220_2)).trans hx220_2
        replace p220 := eq_true p220
        replace q220 := eq_true q220
        obtain ⟨Ao15, co15, eo15⟩ := Kd.S_slice HO_3.out
        subst eo15
        have p221 : 0 ≤ (((rd_T65 l0_0 x4_1).f1) : Int) := of_decide_eq_true (by (with_reducible assumption))
        have q221 : ((rd_T65 l0_0 x4_1).f1) < (x3_1.length : Int) := of_decide_eq_true (by (with_reducible assumption))
        obtain ⟨ad221, A221_0, c221_0, e221, hx221_0, hl221_0, hi221_0⟩ := at_L7 (Kd.S_reads' HO_3.out).2.2 ((rd_T65 l0_0 x4_1).f1) p221 q221
        cases e221
        obtain ⟨ce221, hce221, hMe221, hcc221⟩ := Kd.S_get HO_3.out [] ((rd_T65 l0_0 x4_1).f1) p221 (by exact q221)
        obtain ⟨ve221_0, rfl, ge221_0⟩ := hMe221
        have hv221_0 := hcc221 0 _ rfl
        rw [Nat.add_zero, show ((Kd.slice 3 (Kd.int .i64))).sz = 1 from rfl, Nat.mul_one] at hv221_0
        replace hv221_0 := Option.some.inj (hv221_0.symm.trans hx221_0)
        rw [hv221_0] at ge221_0
        have HL221_0 := aM_ (show Kd.R (Kd.int .i64) 3 _ _ _ _ (rd_L7 x3_1 ((rd_T65 l0_0 x4_1).f1)) from ge221_0)
        clear hv221_0 ge221_0
        have HX221_0 := aM_ hx221_0
        clear hcc221 hce221
        have HR221_0 := aM_ hi221_0
        have HC221_0 := aM_ hl221_0
        clear hi221_0 hl221_0
        replace p221 := eq_true p221
        replace q221 := eq_true q221
        obtain ⟨go16, co16, eo16, gb16, gl16, cl16, HG16⟩ := Kd.S_form HO_3.out (by have h_ : (((rd_T65 l0_0 x4_1).f1) : Int) < ((x3_1.length : Int) : Int) := of_decide_eq_true (by (with_reducible assumption)); have h2_ : 0 ≤ (((rd_T65 l0_0 x4_1).f1) : Int) := (of_decide_eq_true (by (with_reducible assumption))); omega)
        (cases eo16)
        have GB16 := aM_ gb16
        have GG16 := aM_ HG16
        clear gb16 gl16 HG16
        (simp only [add_plain] at hx221_0)
        (try simp only [Int.toNat_natCast] at hx221_0)
        obtain ⟨oki16, ce16, hcl16, hM16, hcc16, _, _, hH16⟩ := Kd.S_elem HO_3.out [] (((rd_T65 l0_0 x4_1).f1) : Int) (of_decide_eq_true (by (with_reducible assumption))) (by have h_ : (((rd_T65 l0_0 x4_1).f1) : Int) < ((x3_1.length : Int) : Int) := of_decide_eq_true (by (with_reducible assumption)); exact h_)
        obtain ⟨ve16_0, rfl, ge16_0⟩ := hM16
        have hv16 := hcc16 0 _ rfl
        have hX16 := HX221_0.out
        (try simp only [add_plain] at hX16)
        (try simp only [Nat.add_zero] at hv16)
        (try rw [show ((Kd.slice 3 (Kd.int .i64))).sz = 1 from rfl, Nat.mul_one] at hv16)
        replace hv16 := Option.some.inj (hv16.symm.trans hX16)
        subst hv16
        clear hX16 hcc16 hcl16
        have UU16 := aM_ (show Kd.R (Kd.int .i64) 3 _ w.heap.size oki16 (.slice A221_0 (rd_L7 x3_1 ((rd_T65 l0_0 x4_1).f1)).length c221_0) (rd_L7 x3_1 ((rd_T65 l0_0 x4_1).f1)) from ge16_0)
        have HH16 := aM_ hH16
        have HN16 := aM_ (Kd.S_reads' HO_3.out).1
        clear hH16 ge16_0
        go_wp2_with (first | ((with_reducible refine gate_builtin (b := .append) (xs := #[.tmp 28, .tmp 30]) rfl ?_); at_builtin; refine Kd.R_append (Kd.int .i64) (w0 := w) w.heap.size rfl (.tmp 28) (.tmp 30) 47 3 (.int .i64 0) 8 rfl Try.underlying47 info3 rfl (by decide) (by omega) (.slice A221_0 (rd_L7 x3_1 ((rd_T65 l0_0 x4_1).f1)).length c221_0) (rd_L7 x3_1 ((rd_T65 l0_0 x4_1).f1)) x4_1 [.int .i64 x4_1] (fun k_ => oki16 k_ ∨ ((fun _ => True)) k_ ∧ wr.heap.size ≤ k_) (fun _ => False) rfl rfl ?aP (fun _ hk => hk.elim) ?aF ?aO ?aB ?aS ?aL ?_; (case aP => exact rfl); (case aB => exact HB.out); (case aF => exact (fun k_ hk => .inr ⟨trivial, hk⟩)); (case aO => exact (by exact kM_ UU16.out (fun _ hk => .inl hk))); (case aS => exact (bZ_ HB.out)); (case aL => have := LMc12.out; omega); intro v223 w17 ho hb hg hat; rw [← Ny222.out] at ho; have n0_ := aM_ (blk_grown (g := gb216) (o := .cells #[.slice (some ad220) l0_0.length c0_0] 30 (0, 0)) BK216.out hg (k6_ HL221_0.out BK216.out (by decide))); have n1_ := aM_ (hb); have n2_ := aM_ (Kd.H_grown (Kd.H_widen (by repeat (first | exact HH16.out | refine Kd.H_alloc ?_ _ | refine Kd.H_drewN ?_ _ | refine Kd.H_drew ?_))) hg (fun k_ e_ => .inl (UU16.out.1 k_ e_))); have n3_ := aM_ (ho); clear BK216; clear HB; clear HH16; clear HO_3; clear UU16; clear HL221_0; have BK216 := n0_; have HB := n1_; have HH16 := n2_; have HO224 := n3_; clear n0_ n1_ n2_ n3_; clear ho hb hg hat; have p13 : 0 ≤ (((rd_T65 l0_0 x4_1).f1) : Int) := of_decide_eq_true (by (with_reducible assumption)); have q13 : (((rd_T65 l0_0 x4_1).f1) : Int) < ((x3_1.length : Int) : Int) := of_decide_eq_true (by (with_reducible assumption)); replace p13 := eq_true p13; replace q13 := eq_true q13; obtain ⟨Ao20, co20, eo20⟩ := kS_ HO224.out; subst eo20; obtain ⟨_, _, hraw18, _, _, hcc18, _⟩ := Kd.H_raw HH16.out (of_decide_eq_true (by (with_reducible assumption))) (by have h_ : (((rd_T65 l0_0 x4_1).f1) : Int) < ((x3_1.length : Int) : Int) := of_decide_eq_true (by (with_reducible assumption)); exact h_); obtain ⟨_, hfr18⟩ := Kd.H_at HH16.out (of_decide_eq_true (by (with_reducible assumption))) (by have h_ : (((rd_T65 l0_0 x4_1).f1) : Int) < ((x3_1.length : Int) : Int) := of_decide_eq_true (by (with_reducible assumption)); exact h_); have hx18_0 := hcc18 0 _ rfl; have hf18_0 := hfr18 0; (try simp only [Nat.add_zero] at hx18_0 hf18_0); (try rw [show ((Kd.slice 3 (Kd.int .i64))).sz = 1 from rfl, Nat.mul_one] at hx18_0); (try rw [show ((Kd.slice 3 (Kd.int .i64))).sz = 1 from rfl, Nat.mul_one] at hf18_0); have HP18 := Kd.S_seg0 HH16.out (of_decide_eq_true (by (with_reducible assumption))) (by have h_ : (((rd_T65 l0_0 x4_1).f1) : Int) < ((x3_1.length : Int) : Int) := of_decide_eq_true (by (with_reducible assumption)); exact h_) (seg := [.slice Ao20 y222.length co20]) (j := 0) (show 1 ≤ 1 from by decide) (x' := y222) (Kd.M_row HO224.out) (fun _ hk => hk); (try simp only [show ((Kd.slice 3 (Kd.int .i64))).sz = 1 from rfl, Nat.mul_one, Nat.add_zero] at HP18); clear hcc18 hfr18) | ((with_reducible refine gate_store (t := 47) (p := 32) rfl ?_); refine store_event (t := 47) (p := 32) (v := ?vo_w19) (w1 := (w17.setCell ⟨go16, (((rd_T65 l0_0 x4_1).f1) : Int).toNat, none⟩ (.slice Ao20 y222.length co20))) ?hg ?ho ?hn ?hr ?_; (case ho => rfl); (case hg => rfl); (case hn => rfl); (case hr => (go_simp; done)); intro w19 hw; have hg : w17.grownBy w19 (some go16) := (by rw [hw]; exact HP18.2); have hp_ : Kd.S (Kd.slice 3 (Kd.int .i64)) 47 w19 w.heap.size (fun _ => True) (.slice (some ⟨go16, 0, none⟩) x3_1.length co15) y225 := (by rw [hw, Ny225.out]; exact HP18.1); clear HP18; have n0_ := aM_ (blk_grown (g := gb216) (o := .cells #[.slice (some ad220) l0_0.length c0_0] 30 (0, 0)) BK216.out hg (k6_ hraw18 BK216.out (by decide))); have n1_ := aM_ ((by rw [hw]; exact bS_ HB.out GB16.out : Below w.heap.size w w19)); have n2_ := aM_ (hp_); clear BK216; clear HB; clear HO224; clear HH16; have BK216 := n0_; have HB := n1_; have HO_3 := n2_; clear n0_ n1_ n2_; clear hg hw hp_ hraw18))
        go_roundg k1
        case measure => have := HK1.out; omega
        case rel => exact ⟨(y225), (wrap64 (x4_1 + 1)), (by rfl), H', ⟨by have := HK1.out; omega⟩, ⟨by (with_reducible repeat (first | apply Kd.S_alloc | apply Kd.S_drewN | apply Kd.S_drew)); exact HO_3.out⟩, ⟨BK216.out⟩, ⟨HB.out⟩⟩
       ·
        rw [if_neg c12] at H
        exact absurd H (by simp)
      ·
       rw [if_neg c11] at H
       exact absurd H (by simp)
     ·
      rw [if_neg c10] at H
      exact absurd H (by simp)
    ·
     rw [if_neg c9] at H
     exact absurd H (by simp)
   ·
    rw [if_neg c8] at H
    have c8b0 := decide_eq_false c8
    clear c8
    obtain rfl := Option.some.inj H
    have hcz21_0 : wr.cell? ⟨gb216, 0, none⟩ = some (.slice A0_0 l0_0.length c0_0) := (bC_ BK216.out 0).trans rfl
    have hfz21_0 := bF_ BK216.out 0
    go_wp2
    go_ret
    exact ⟨_, by rfl, by (with_reducible repeat (first | apply Kd.S_alloc | apply Kd.S_drewN | apply Kd.S_drew)); exact HO_3.out, by exact HB.out⟩
mutual
def spec_l7Alike.j0 : Nat → List (List Int) → List Int → Int → Int → Bool → List (S65) → Option (Bool)
 | 0, _, _, _, _, _, _ => none
 | k + 1, x1, x2, x3, x4, x39, x227000 => if x39 = true then (some false) else (spec_l7Alike.l0 k x1 x2 x3 x4 0 x227000)
def spec_l7Alike.l0 : Nat → List (List Int) → List Int → Int → Int → Int → List (S65) → Option (Bool)
 | 0, _, _, _, _, _, _ => none
 | k + 1, x1, x2, x3, x4, x11, x227000 => if 0 ≤ x3 then (if x3 < (x1.length : Int) then (if x11 < ((rd_L7 x1 x3).length : Int) then (if 0 ≤ x11 then (if 0 ≤ x4 then (if x4 < (x1.length : Int) then (if x11 < ((rd_L7 x1 x4).length : Int) then (if 0 ≤ (rd (rd_L7 x1 x3) x11) then (if (rd (rd_L7 x1 x3) x11) < (x227000.length : Int) then (if 0 ≤ (rd (rd_L7 x1 x4) x11) then (if (rd (rd_L7 x1 x4) x11) < (x227000.length : Int) then (if ((rd_T65 x227000 (rd (rd_L7 x1 x3) x11)).f0) = ((rd_T65 x227000 (rd (rd_L7 x1 x4) x11)).f0) then (if (rd (rd_L7 x1 x3) x11) < (x2.length : Int) then (if (rd (rd_L7 x1 x4) x11) < (x2.length : Int) then (if (rd x2 (rd (rd_L7 x1 x3) x11)) = (rd x2 (rd (rd_L7 x1 x4) x11)) then (spec_l7Alike.l0 k x1 x2 x3 x4 (wrap64 (x11 + 1)) x227000) else (some false)) else (none)) else (none)) else (some false)) else (none)) else (none)) else (none)) else (none)) else (none)) else (none)) else (none)) else (none)) else (some true)) else (none)) else (none)
end
def spec_l7Alike.f (k : Nat) (l0_0 : List (S65)) (l1 : List (List Int)) (l2 : List Int) (a3 : Int) (a4 : Int) : Option (Bool) := if 0 ≤ a3 then (if a3 < (l0_0.length : Int) then (if 0 ≤ a4 then (if a4 < (l0_0.length : Int) then (if (((rd_T65 l0_0 a3).f2) != ((rd_T65 l0_0 a4).f2)) = true then (spec_l7Alike.j0 k l1 l2 a3 a4 true l0_0) else (if a3 < (l1.length : Int) then (if a4 < (l1.length : Int) then (spec_l7Alike.j0 k l1 l2 a3 a4 (((rd_L7 l1 a3).length : Int) != ((rd_L7 l1 a4).length : Int)) l0_0) else (none)) else (none))) else (none)) else (none)) else (none)) else (none)
theorem spec_l7Alike.mono_l : ∀ k, (∀ y0 y1 y2 y3 y4 y5, LeO (spec_l7Alike.j0 k y0 y1 y2 y3 y4 y5) (spec_l7Alike.j0 (k + 1) y0 y1 y2 y3 y4 y5)) ∧ (∀ y0 y1 y2 y3 y4 y5, LeO (spec_l7Alike.l0 k y0 y1 y2 y3 y4 y5) (spec_l7Alike.l0 (k + 1) y0 y1 y2 y3 y4 y5))
 | 0 => ⟨fun _ _ _ _ _ _ r h => by simp [spec_l7Alike.j0] at h, fun _ _ _ _ _ _ r h => by simp [spec_l7Alike.l0] at h⟩
 | k + 1 => by
  obtain ⟨ih0, ih1⟩ := spec_l7Alike.mono_l k
  refine ⟨?_, ?_⟩
  ·
   intro y0 y1 y2 y3 y4 y5
   unfold spec_l7Alike.j0
   repeat' first
   | (with_reducible exact ih0 _ _ _ _ _ _)
   | (with_reducible exact ih1 _ _ _ _ _ _)
   | (with_reducible exact l3_ _)
   | (with_reducible exact l0_ _)
   | (with_reducible refine l2_ ?_ ?_)
   | (with_reducible refine l1_ ?_ (fun _ => ?_))
   | exact ih0 _ _ _ _ _ _
   | exact ih1 _ _ _ _ _ _
   | exact l0_ _
   | refine l2_ ?_ ?_
   | refine l1_ ?_ (fun _ => ?_)
  ·
   intro y0 y1 y2 y3 y4 y5
   unfold spec_l7Alike.l0
   repeat' first
   | (with_reducible exact ih0 _ _ _ _ _ _)
   | (with_reducible exact ih1 _ _ _ _ _ _)
   | (with_reducible exact l3_ _)
   | (with_reducible exact l0_ _)
   | (with_reducible refine l2_ ?_ ?_)
   | (with_reducible refine l1_ ?_ (fun _ => ?_))
   | exact ih0 _ _ _ _ _ _
   | exact ih1 _ _ _ _ _ _
   | exact l0_ _
   | refine l2_ ?_ ?_
   | refine l1_ ?_ (fun _ => ?_)
theorem spec_l7Alike.mono : ∀ a0 a1 a2 a3 a4 k, LeO (spec_l7Alike.f k a0 a1 a2 a3 a4) (spec_l7Alike.f (k + 1) a0 a1 a2 a3 a4) := by
 intro a0 a1 a2 a3 a4 k
 obtain ⟨ih0, ih1⟩ := spec_l7Alike.mono_l k
 unfold spec_l7Alike.f
 repeat' first
   | (with_reducible exact ih0 _ _ _ _ _ _)
   | (with_reducible exact ih1 _ _ _ _ _ _)
   | (with_reducible exact l3_ _)
   | (with_reducible exact l0_ _)
   | (with_reducible refine l2_ ?_ ?_)
   | (with_reducible refine l1_ ?_ (fun _ => ?_))
   | exact ih0 _ _ _ _ _ _
   | exact ih1 _ _ _ _ _ _
   | exact l0_ _
   | refine l2_ ?_ ?_
   | refine l1_ ?_ (fun _ => ?_)
theorem spec_l7Alike.calls (k : Nat) (A0_0 : Option Addr) (c0_0 : Nat) (l0_0 : List (S65)) (A1 : Option Addr) (c1 : Nat) (l1 : List (List Int)) (A2 : Option Addr) (c2 : Nat) (l2 : List Int) (a3 : Int) (a4 : Int) (r : Bool) (w : World) (hr0_0 : Kd.C k65 w A0_0 l0_0.length l0_0) (hc0_0 : l0_0.length ≤ c0_0) (hr1 : Kd.C (Kd.slice 3 (Kd.int .i64)) w A1 l1.length l1) (hc1 : l1.length ≤ c1) (hr2 : Kd.C (Kd.int .i64) w A2 l2.length l2) (hc2 : l2.length ≤ c2) (h : spec_l7Alike.f k l0_0 l1 l2 a3 a4 = some r) :
  Calls Try.prog 36 #[.agg #[.slice A0_0 l0_0.length c0_0], .slice A1 l1.length c1, .slice A2 l2.length c2, .int .i64 a3, .int .i64 a4] w fun e w' => e = .returned (.bool r) ∧ Below w.heap.size w w' := by
 have hu30 := Try.underlying30
 have HR0_0 := aM_ hr0_0
 have HC0_0 := aM_ hc0_0
 clear hr0_0 hc0_0
 have HR1 := aM_ hr1
 have HC1 := aM_ hc1
 clear hr1 hc1
 have HR2 := aM_ hr2
 have HC2 := aM_ hc2
 clear hr2 hc2
 have HB := aM_ (Below.refl w.heap.size w)
 have H : (if 0 ≤ a3 then (if a3 < (l0_0.length : Int) then (if 0 ≤ a4 then (if a4 < (l0_0.length : Int) then (if (((rd_T65 l0_0 a3).f2) != ((rd_T65 l0_0 a4).f2)) = true then (spec_l7Alike.j0 k l1 l2 a3 a4 true l0_0) else (if a3 < (l1.length : Int) then (if a4 < (l1.length : Int) then (spec_l7Alike.j0 k l1 l2 a3 a4 (((rd_L7 l1 a3).length : Int) != ((rd_L7 l1 a4).length : Int)) l0_0) else (none)) else (none))) else (none)) else (none)) else (none)) else (none)) = some r := h
 clear h
 have HC6 := aM_ H
 clear H
 go_enter Try.func36, Try.ntmps36
 go_upto_region 1 with (first | ((with_reducible refine gD_ (N := 5) rfl ?_); (try (refine gate_guard (by rfl) ?_; dsimp only)); refine bE_ ?hg (N := 5) ?hd (cs := #[.slice A0_0 l0_0.length c0_0]) (t := 30) ?hr ?_; (case hd => rfl); (case hg => rfl); (case hr => (go_simp; done)); intro gb226 hg w7 hbox hb; have BK226 := aM_ (hbox); have GW226 := aM_ ((by rw [hg]; exact (bZ_ HB.out) : w.heap.size ≤ gb226)); have GE226 := GW226; replace HB := aM_ (bT_ HB.out hb); clear hb hbox hg))
 repeat (go_quiet (first | ((with_reducible refine gD_ (N := 5) rfl ?_); (try (refine gate_guard (by rfl) ?_; dsimp only)); refine bE_ ?hg (N := 5) ?hd (cs := #[.slice A0_0 l0_0.length c0_0]) (t := 30) ?hr ?_; (case hd => rfl); (case hg => rfl); (case hr => first | (go_simp; done) | (go_simp; rfl)); intro gb226 hg w7 hbox hb; have BK226 := aM_ (hbox); have GW226 := aM_ ((by rw [hg]; exact (bZ_ (by repeat (first | (with_reducible first | exact HB.out | apply bA_ | apply bN_ | apply bD_) | exact HB.out))) : w.heap.size ≤ gb226)); have GE226 := GW226; replace HB := aM_ (bT_ (by repeat (first | (with_reducible first | exact HB.out | apply bA_ | apply bN_ | apply bD_) | exact HB.out)) hb); clear hb hbox hg)); go_upto_region 1 with (first | ((with_reducible refine gD_ (N := 5) rfl ?_); (try (refine gate_guard (by rfl) ?_; dsimp only)); refine bE_ ?hg (N := 5) ?hd (cs := #[.slice A0_0 l0_0.length c0_0]) (t := 30) ?hr ?_; (case hd => rfl); (case hg => rfl); (case hr => first | (go_simp; done) | (go_simp; rfl)); intro gb226 hg w7 hbox hb; have BK226 := aM_ (hbox); have GW226 := aM_ ((by rw [hg]; exact (bZ_ (by repeat (first | (with_reducible first | exact HB.out | apply bA_ | apply bN_ | apply bD_) | exact HB.out))) : w.heap.size ≤ gb226)); have GE226 := GW226; replace HB := aM_ (bT_ (by repeat (first | (with_reducible first | exact HB.out | apply bA_ | apply bN_ | apply bD_) | exact HB.out)) hb); clear hb hbox hg)))
 (try simp only [Act.put, sA_, sB_, sC_])
 go_cut [39] (fun v39 wc => ∃ (kq : Nat) (x39_5 : Bool), v39 = .bool x39_5 ∧ Aside0 (spec_l7Alike.j0 kq l1 l2 a3 a4 x39_5 l0_0 = some r) ∧ Aside0 (kq ≤ k) ∧ Aside0 (wc.heap[gb226]? = some (.cells #[(.slice A0_0 l0_0.length c0_0)] 30 (0, 0))) ∧ Aside0 (Below w.heap.size w wc))
 case first =>
  have H := HC6.out
  clear HC6
  by_cases c8 : 0 ≤ a3
  ·
   rw [if_pos c8] at H
   have c8b0 := decide_eq_true c8
   clear c8
   (skip)
   by_cases c9 : a3 < (l0_0.length : Int)
   ·
    rw [if_pos c9] at H
    have c9b0 := decide_eq_true c9
    clear c9
    by_cases c10 : 0 ≤ a4
    ·
     rw [if_pos c10] at H
     have c10b0 := decide_eq_true c10
     clear c10
     by_cases c11 : a4 < (l0_0.length : Int)
     ·
      rw [if_pos c11] at H
      have c11b0 := decide_eq_true c11
      clear c11
      by_cases c12 : (((rd_T65 l0_0 a3).f2) != ((rd_T65 l0_0 a4).f2)) = true
      ·
       rw [if_pos c12] at H
       have c12b0 : (((rd_T65 l0_0 a3).f2) != ((rd_T65 l0_0 a4).f2)) = true := c12
       (try (have c12b1 : decide (((rd_T65 l0_0 a3).f2) = ((rd_T65 l0_0 a4).f2)) = false := by simpa using c12))
       (try (have c12b2 : (((rd_T65 l0_0 a3).f2) == ((rd_T65 l0_0 a4).f2)) = false := by simpa using c12))
       (try (have c12b3 : ¬ (((rd_T65 l0_0 a3).f2) = ((rd_T65 l0_0 a4).f2)) := by simpa using c12))
       clear c12
       have H' := aM_ H
       clear H
       have hcz13_0 : w7.cell? ⟨gb226, 0, none⟩ = some (.slice A0_0 l0_0.length c0_0) := (bC_ BK226.out 0).trans rfl
       have hfz13_0 := bF_ BK226.out 0
       have p227 : 0 ≤ (a3 : Int) := of_decide_eq_true (by (with_reducible assumption))
       have q227 : a3 < (l0_0.length : Int) := of_decide_eq_true (by (with_reducible assumption))
       obtain ⟨ad227, e227, hx227_0, hx227_1, hx227_2⟩ := at_T65 HR0_0.out a3 p227 q227
       cases e227
       replace hx227_0 := (HB.out.cell (wB_ w _ hx227_0)).trans hx227_0
       replace hx227_1 := (HB.out.cell (wB_ w _ hx227_1)).trans hx227_1
       replace hx227_2 := (HB.out.cell (wB_ w _ hx227_2)).trans hx227_2
       replace p227 := eq_true p227
       replace q227 := eq_true q227
       have p228 : 0 ≤ (a4 : Int) := of_decide_eq_true (by (with_reducible assumption))
       have q228 : a4 < (l0_0.length : Int) := of_decide_eq_true (by (with_reducible assumption))
       obtain ⟨ad228, e228, hx228_0, hx228_1, hx228_2⟩ := at_T65 HR0_0.out a4 p228 q228
       obtain rfl : ad227 = ad228 := (by injection e228)
       replace hx228_0 := (HB.out.cell (wB_ w _ hx228_0)).trans hx228_0
       replace hx228_1 := (HB.out.cell (wB_ w _ hx228_1)).trans hx228_1
       replace hx228_2 := (HB.out.cell (wB_ w _ hx228_2)).trans hx228_2
       replace p228 := eq_true p228
       replace q228 := eq_true q228
       go_wp2
       repeat (go_quiet (fail); try go_wp2)
       go_meet
       case rel => exact ⟨_, (true), (by rfl), H', ⟨by omega⟩, ⟨by (with_reducible repeat (first | refine b2_ ?_ _ | refine b1_ ?_ | refine b3_ ?_ _)); exact BK226.out⟩, ⟨by repeat (first | (with_reducible first | exact HB.out | apply bA_ | apply bN_ | apply bD_ | refine bS_ ?_ GE226.out) | exact HB.out)⟩⟩
      ·
       rw [if_neg c12] at H
       have c12b0 : (((rd_T65 l0_0 a3).f2) != ((rd_T65 l0_0 a4).f2)) = false := by simpa using c12
       (try (have c12b1 : decide (((rd_T65 l0_0 a3).f2) = ((rd_T65 l0_0 a4).f2)) = true := by simpa using c12))
       (try (have c12b2 : (((rd_T65 l0_0 a3).f2) == ((rd_T65 l0_0 a4).f2)) = true := by simpa using c12))
       clear c12
       by_cases c14 : a3 < (l1.length : Int)
       ·
        rw [if_pos c14] at H
        have c14b0 := decide_eq_true c14
        clear c14
        by_cases c15 : a4 < (l1.length : Int)
        ·
         rw [if_pos c15] at H
         have c15b0 := decide_eq_true c15
         clear c15
         have H' := aM_ H
         clear H
         have hcz16_0 : w7.cell? ⟨gb226, 0, none⟩ = some (.slice A0_0 l0_0.length c0_0) := (bC_ BK226.out 0).trans rfl
         have hfz16_0 := bF_ BK226.out 0
         have p227 : 0 ≤ (a3 : Int) := of_decide_eq_true (by (with_reducible assumption))
         have q227 : a3 < (l0_0.length : Int) := of_decide_eq_true (by (with_reducible assumption))
         obtain ⟨ad227, e227, hx227_0, hx227_1, hx227_2⟩ := at_T65 HR0_0.out a3 p227 q227
         cases e227
         replace hx227_0 := (HB.out.cell (wB_ w _ hx227_0)).trans hx227_0
         replace hx227_1 := (HB.out.cell (wB_ w _ hx227_1)).trans hx227_1
         replace hx227_2 := (HB.out.cell (wB_ w _ hx227_2)).trans hx227_2
         replace p227 := eq_true p227
         replace q227 := eq_true q227
         have p228 : 0 ≤ (a4 : Int) := of_decide_eq_true (by (with_reducible assumption))
         have q228 : a4 < (l0_0.length : Int) := of_decide_eq_true (by (with_reducible assumption))
         obtain ⟨ad228, e228, hx228_0, hx228_1, hx228_2⟩ := at_T65 HR0_0.out a4 p228 q228
         obtain rfl : ad227 = ad228 := (by injection e228)
         replace hx228_0 := (HB.out.cell (wB_ w _ hx228_0)).trans hx228_0
         replace hx228_1 := (HB.out.cell (wB_ w _ hx228_1)).trans hx228_1
         replace hx228_2 := (HB.out.cell (wB_ w _ hx228_2)).trans hx228_2
         replace p228 := eq_true p228
         replace q228 := eq_true q228
         have p229 : 0 ≤ (a3 : Int) := of_decide_eq_true (by (with_reducible assumption))
         have q229 : a3 < (l1.length : Int) := of_decide_eq_true (by (with_reducible assumption))
         obtain ⟨ad229, A229_0, c229_0, e229, hx229_0, hl229_0, hi229_0⟩ := at_L7 HR1.out a3 p229 q229
         cases e229
         replace hx229_0 := (HB.out.cell (wB_ w _ hx229_0)).trans hx229_0
         have HR229_0 := aM_ hi229_0
         have HC229_0 := aM_ hl229_0
         clear hi229_0 hl229_0
         replace p229 := eq_true p229
         replace q229 := eq_true q229
         have p230 : 0 ≤ (a4 : Int) := of_decide_eq_true (by (with_reducible assumption))
         have q230 : a4 < (l1.length : Int) := of_decide_eq_true (by (with_reducible assumption))
         obtain ⟨ad230, A230_0, c230_0, e230, hx230_0, hl230_0, hi230_0⟩ := at_L7 HR1.out a4 p230 q230
         obtain rfl : ad229 = ad230 := (by injection e230)
         replace hx230_0 := (HB.out.cell (wB_ w _ hx230_0)).trans hx230_0
         have HR230_0 := aM_ hi230_0
         have HC230_0 := aM_ hl230_0
         clear hi230_0 hl230_0
         replace p230 := eq_true p230
         replace q230 := eq_true q230
         go_wp2
         repeat (go_quiet (fail); try go_wp2)
         go_meet
         case rel => exact ⟨_, ((((rd_L7 l1 a3).length : Int) != ((rd_L7 l1 a4).length : Int))), (by rfl), H', ⟨by omega⟩, ⟨by (with_reducible repeat (first | refine b2_ ?_ _ | refine b1_ ?_ | refine b3_ ?_ _)); exact BK226.out⟩, ⟨by repeat (first | (with_reducible first | exact HB.out | apply bA_ | apply bN_ | apply bD_ | refine bS_ ?_ GE226.out) | exact HB.out)⟩⟩
        ·
         rw [if_neg c15] at H
         exact absurd H (by simp)
       ·
        rw [if_neg c14] at H
        exact absurd H (by simp)
     ·
      rw [if_neg c11] at H
      exact absurd H (by simp)
    ·
     rw [if_neg c10] at H
     exact absurd H (by simp)
   ·
    rw [if_neg c9] at H
    exact absurd H (by simp)
  ·
   rw [if_neg c8] at H
   exact absurd H (by simp)
 case rest =>
  clear HC6
  try clear p2
  try clear q2
  try clear hx2
  try clear c8b0
  try clear c9b0
  try clear c10b0
  try clear c11b0
  try clear c12b0
  try clear c12b1
  try clear c12b2
  try clear c14b0
  try clear c15b0
  try clear hcz13_0
  try clear hcz16_0
  try clear hfz13_0
  try clear hfz16_0
  try clear hx227_0
  try clear hx227_1
  try clear hx227_2
  try clear hx228_0
  try clear hx228_1
  try clear hx228_2
  try clear hx229_0
  try clear hx230_0
  try clear p227
  try clear p228
  try clear p229
  try clear p230
  try clear q227
  try clear q228
  try clear q229
  try clear q230
  obtain ⟨kq, x39_5, rfl, HA, HJ5, BK226, HB⟩ := hcut
  cases kq with
  | zero => exact absurd HA.out (by simp [spec_l7Alike.j0])
  | succ kj5 =>
   have H := HA.out
   clear HA
   simp only [spec_l7Alike.j0] at H
   by_cases c17 : x39_5 = true
   ·
    subst c17
    rw [if_pos rfl] at H
    obtain rfl := Option.some.inj H
    go_wp2
    repeat (go_quiet (fail); try go_wp2)
    go_ret
    exact ⟨by rfl, by exact HB.out⟩
   ·
    replace c17 := Bool.eq_false_iff.mpr c17
    subst c17
    have H1 : (spec_l7Alike.l0 kj5 l1 l2 a3 a4 0 l0_0) = some r := by rw [if_neg (show ¬ (false = true) by decide)] at H; exact H
    clear H
    have H := H1
    clear H1
    have H' := aM_ H
    clear H
    go_wp2
    repeat (go_quiet (fail); try go_wp2)
    go_loopg [11] kj5 (fun kq v11 w' => ∃ (x11_2 : Int), v11 = .int .i64 x11_2 ∧ Aside0 (spec_l7Alike.l0 kq l1 l2 a3 a4 x11_2 l0_0 = some r) ∧ Aside0 (kq ≤ kj5) ∧ Aside0 (w'.heap[gb226]? = some (.cells #[(.slice A0_0 l0_0.length c0_0)] 30 (0, 0))) ∧ Aside0 (Below w.heap.size w w'))
    case atStart => exact ⟨(0), (by rfl), H', ⟨Nat.le_refl _⟩, ⟨BK226.out⟩, ⟨HB.out⟩⟩
    case round =>
     clear H'
     try clear p2
     try clear q2
     try clear hx2
     try clear c8b0
     try clear c9b0
     try clear c10b0
     try clear c11b0
     try clear c12b0
     try clear c12b1
     try clear c12b2
     try clear c14b0
     try clear c15b0
     try clear hcz13_0
     try clear hcz16_0
     try clear hfz13_0
     try clear hfz16_0
     try clear hx227_0
     try clear hx227_1
     try clear hx227_2
     try clear hx228_0
     try clear hx228_1
     try clear hx228_2
     try clear hx229_0
     try clear hx230_0
     try clear p2
     try clear p227
     try clear p228
     try clear p229
     try clear p230
     try clear q2
     try clear q227
     try clear q228
     try clear q229
     try clear q230
     obtain ⟨x11_2, rfl, HA, HK2, BK226, HB⟩ := hrel
     cases gk with
     | zero => exact absurd HA.out (by simp [spec_l7Alike.l0])
     | succ k2 =>
      have H := HA.out
      clear HA
      simp only [spec_l7Alike.l0] at H
      by_cases c18 : 0 ≤ a3
      ·
       rw [if_pos c18] at H
       have c18b0 := decide_eq_true c18
       clear c18
       by_cases c19 : a3 < (l1.length : Int)
       ·
        rw [if_pos c19] at H
        have c19b0 := decide_eq_true c19
        clear c19
        by_cases c20 : x11_2 < ((rd_L7 l1 a3).length : Int)
        ·
         rw [if_pos c20] at H
         have c20b0 := decide_eq_true c20
         clear c20
         by_cases c21 : 0 ≤ x11_2
         ·
          rw [if_pos c21] at H
          have c21b0 := decide_eq_true c21
          clear c21
          by_cases c22 : 0 ≤ a4
          ·
           rw [if_pos c22] at H
           have c22b0 := decide_eq_true c22
           clear c22
           by_cases c23 : a4 < (l1.length : Int)
           ·
            rw [if_pos c23] at H
            have c23b0 := decide_eq_true c23
            clear c23
            by_cases c24 : x11_2 < ((rd_L7 l1 a4).length : Int)
            ·
             rw [if_pos c24] at H
             have c24b0 := decide_eq_true c24
             clear c24
             by_cases c25 : 0 ≤ (rd (rd_L7 l1 a3) x11_2)
             ·
              rw [if_pos c25] at H
              have c25b0 := decide_eq_true c25
              clear c25
              by_cases c26 : (rd (rd_L7 l1 a3) x11_2) < (l0_0.length : Int)
              ·
               rw [if_pos c26] at H
               have c26b0 := decide_eq_true c26
               clear c26
               by_cases c27 : 0 ≤ (rd (rd_L7 l1 a4) x11_2)
               ·
                rw [if_pos c27] at H
                have c27b0 := decide_eq_true c27
                clear c27
                by_cases c28 : (rd (rd_L7 l1 a4) x11_2) < (l0_0.length : Int)
                ·
                 rw [if_pos c28] at H
                 have c28b0 := decide_eq_true c28
                 clear c28
                 by_cases c29 : ((rd_T65 l0_0 (rd (rd_L7 l1 a3) x11_2)).f0) = ((rd_T65 l0_0 (rd (rd_L7 l1 a4) x11_2)).f0)
                 ·
                  rw [if_pos c29] at H
                  have c29b0 : (((rd_T65 l0_0 (rd (rd_L7 l1 a3) x11_2)).f0) == ((rd_T65 l0_0 (rd (rd_L7 l1 a4) x11_2)).f0)) = true := beq_iff_eq.mpr c29
                  have c29b1 : (((rd_T65 l0_0 (rd (rd_L7 l1 a3) x11_2)).f0) != ((rd_T65 l0_0 (rd (rd_L7 l1 a4) x11_2)).f0)) = false := bne_eq_false_iff_eq.mpr c29
                  clear c29
                  by_cases c30 : (rd (rd_L7 l1 a3) x11_2) < (l2.length : Int)
                  ·
                   rw [if_pos c30] at H
                   have c30b0 := decide_eq_true c30
                   clear c30
                   by_cases c31 : (rd (rd_L7 l1 a4) x11_2) < (l2.length : Int)
                   ·
                    rw [if_pos c31] at H
                    have c31b0 := decide_eq_true c31
                    clear c31
                    by_cases c32 : (rd l2 (rd (rd_L7 l1 a3) x11_2)) = (rd l2 (rd (rd_L7 l1 a4) x11_2))
                    ·
                     rw [if_pos c32] at H
                     have c32b0 : ((rd l2 (rd (rd_L7 l1 a3) x11_2)) == (rd l2 (rd (rd_L7 l1 a4) x11_2))) = true := beq_iff_eq.mpr c32
                     have c32b1 : ((rd l2 (rd (rd_L7 l1 a3) x11_2)) != (rd l2 (rd (rd_L7 l1 a4) x11_2))) = false := bne_eq_false_iff_eq.mpr c32
                     clear c32
                     have H' := aM_ H
                     clear H
                     have p231 : 0 ≤ (a3 : Int) := of_decide_eq_true (by (with_reducible assumption))
                     have q231 : a3 < (l1.length : Int) := of_decide_eq_true (by (with_reducible assumption))
                     obtain ⟨ad231, A231_0, c231_0, e231, hx231_0, hl231_0, hi231_0⟩ := at_L7 HR1.out a3 p231 q231
                     cases e231
                     replace hx231_0 := (HB.out.cell (wB_ w _ hx231_0)).trans hx231_0
                     have HR231_0 := aM_ hi231_0
                     have HC231_0 := aM_ hl231_0
                     clear hi231_0 hl231_0
                     replace p231 := eq_true p231
                     replace q231 := eq_true q231
                     have p232 : 0 ≤ (a3 : Int) := of_decide_eq_true (by (with_reducible assumption))
                     have q232 : a3 < (l1.length : Int) := of_decide_eq_true (by (with_reducible assumption))
                     obtain ⟨ad232, A232_0, c232_0, e232, hx232_0, hl232_0, hi232_0⟩ := at_L7 HR1.out a3 p232 q232
                     obtain rfl : ad231 = ad232 := (by injection e232)
                     replace hx232_0 := (HB.out.cell (wB_ w _ hx232_0)).trans hx232_0
                     have HR232_0 := aM_ hi232_0
                     have HC232_0 := aM_ hl232_0
                     clear hi232_0 hl232_0
                     replace p232 := eq_true p232
                     replace q232 := eq_true q232
                     have ea_ := Option.some.inj (hx231_0.symm.trans hx232_0)
                     injection ea_ with ea_ en_ ec_
                     subst ea_
                     subst ec_
                     clear en_
                     have p233 : 0 ≤ (x11_2 : Int) := of_decide_eq_true (by (with_reducible assumption))
                     have q233 : x11_2 < ((rd_L7 l1 a3).length : Int) := of_decide_eq_true (by (with_reducible assumption))
                     obtain ⟨ad233, e233, hx233_0⟩ := Kd.at_int HR232_0.out x11_2 p233 q233
                     cases e233
                     replace hx233_0 := (HB.out.cell (wB_ w _ hx233_0)).trans hx233_0
                     replace p233 := eq_true p233
                     replace q233 := eq_true q233
                     have p234 : 0 ≤ (a4 : Int) := of_decide_eq_true (by (with_reducible assumption))
                     have q234 : a4 < (l1.length : Int) := of_decide_eq_true (by (with_reducible assumption))
                     obtain ⟨ad234, A234_0, c234_0, e234, hx234_0, hl234_0, hi234_0⟩ := at_L7 HR1.out a4 p234 q234
                     obtain rfl : ad231 = ad234 := (by injection e234)
                     replace hx234_0 := (HB.out.cell (wB_ w _ hx234_0)).trans hx234_0
                     have HR234_0 := aM_ hi234_0
                     have HC234_0 := aM_ hl234_0
                     clear hi234_0 hl234_0
                     replace p234 := eq_true p234
                     replace q234 := eq_true q234
                     have p235 : 0 ≤ (x11_2 : Int) := of_decide_eq_true (by (with_reducible assumption))
                     have q235 : x11_2 < ((rd_L7 l1 a4).length : Int) := of_decide_eq_true (by (with_reducible assumption))
                     obtain ⟨ad235, e235, hx235_0⟩ := Kd.at_int HR234_0.out x11_2 p235 q235
                     cases e235
                     replace hx235_0 := (HB.out.cell (wB_ w _ hx235_0)).trans hx235_0
                     replace p235 := eq_true p235
                     replace q235 := eq_true q235
                     have hcz33_0 : wr.cell? ⟨gb226, 0, none⟩ = some (.slice A0_0 l0_0.length c0_0) := (bC_ BK226.out 0).trans rfl
                     have hfz33_0 := bF_ BK226.out 0
                     have p236 : 0 ≤ ((rd (rd_L7 l1 a3) x11_2) : Int) := of_decide_eq_true (by (with_reducible assumption))
                     have q236 : (rd (rd_L7 l1 a3) x11_2) < (l0_0.length : Int) := of_decide_eq_true (by (with_reducible assumption))
                     obtain ⟨ad236, e236, hx236_0, hx236_1, hx236_2⟩ := at_T65 HR0_0.out (rd (rd_L7 l1 a3) x11_2) p236 q236
                     cases e236
                     replace hx236_0 := (HB.out.cell (wB_ w _ hx236_0)).trans hx236_0
                     replace hx236_1 := (HB.out.cell (wB_ w _ hx236_1)).trans hx236_1
                     replace hx236_2 := (HB.out.cell (wB_ w _ hx236_2)).trans hx236_2
                     replace p236 := eq_true p236
                     replace q236 := eq_true q236
                     have p237 : 0 ≤ ((rd (rd_L7 l1 a4) x11_2) : Int) := of_decide_eq_true (by (with_reducible assumption))
                     have q237 : (rd (rd_L7 l1 a4) x11_2) < (l0_0.length : Int) := of_decide_eq_true (by (with_reducible assumption))
                     obtain ⟨ad237, e237, hx237_0, hx237_1, hx237_2⟩ := at_T65 HR0_0.out (rd (rd_L7 l1 a4) x11_2) p237 q237
                     obtain rfl : ad236 = ad237 := (by injection e237)
                     replace hx237_0 := (HB.out.cell (wB_ w _ hx237_0)).trans hx237_0
                     replace hx237_1 := (HB.out.cell (wB_ w _ hx237_1)).trans hx237_1
                     replace hx237_2 := (HB.out.cell (wB_ w _ hx237_2)).trans hx237_2
                     replace p237 := eq_true p237
                     replace q237 := eq_true q237
                     have p238 : 0 ≤ ((rd (rd_L7 l1 a3) x11_2) : Int) := of_decide_eq_true (by (with_reducible assumption))
                     have q238 : (rd (rd_L7 l1 a3) x11_2) < (l2.length : Int) := of_decide_eq_true (by (with_reducible assumption))
                     obtain ⟨ad238, e238, hx238_0⟩ := Kd.at_int HR2.out (rd (rd_L7 l1 a3) x11_2) p238 q238
                     cases e238
                     replace hx238_0 := (HB.out.cell (wB_ w _ hx238_0)).trans hx238_0
                     replace p238 := eq_true p238
                     replace q238 := eq_true q238
                     have p239 : 0 ≤ ((rd (rd_L7 l1 a4) x11_2) : Int) := of_decide_eq_true (by (with_reducible assumption))
                     have q239 : (rd (rd_L7 l1 a4) x11_2) < (l2.length : Int) := of_decide_eq_true (by (with_reducible assumption))
                     obtain ⟨ad239, e239, hx239_0⟩ := Kd.at_int HR2.out (rd (rd_L7 l1 a4) x11_2) p239 q239
                     obtain rfl : ad238 = ad239 := (by injection e239)
                     replace hx239_0 := (HB.out.cell (wB_ w _ hx239_0)).trans hx239_0
                     replace p239 := eq_true p239
                     replace q239 := eq_true q239
                     go_wp2
                     repeat (go_quiet (fail); try go_wp2)
                     go_roundg k2
                     case measure => have := HJ5.out; have := HK2.out; omega
                     case rel => exact ⟨(wrap64 (x11_2 + 1)), (by rfl), H', ⟨by have := HJ5.out; have := HK2.out; omega⟩, ⟨by (with_reducible repeat (first | refine b2_ ?_ _ | refine b1_ ?_ | refine b3_ ?_ _)); exact BK226.out⟩, ⟨by repeat (first | (with_reducible first | exact HB.out | apply bA_ | apply bN_ | apply bD_ | refine bS_ ?_ GE226.out) | exact HB.out)⟩⟩
                    ·
                     rw [if_neg c32] at H
                     have c32b0 : ((rd l2 (rd (rd_L7 l1 a3) x11_2)) == (rd l2 (rd (rd_L7 l1 a4) x11_2))) = false := beq_eq_false_iff_ne.mpr c32
                     have c32b1 : ((rd l2 (rd (rd_L7 l1 a3) x11_2)) != (rd l2 (rd (rd_L7 l1 a4) x11_2))) = true := bne_iff_ne.mpr c32
                     obtain rfl := Option.some.inj H
                     have p231 : 0 ≤ (a3 : Int) := of_decide_eq_true (by (with_reducible assumption))
                     have q231 : a3 < (l1.length : Int) := of_decide_eq_true (by (with_reducible assumption))
                     obtain ⟨ad231, A231_0, c231_0, e231, hx231_0, hl231_0, hi231_0⟩ := at_L7 HR1.out a3 p231 q231
                     cases e231
                     replace hx231_0 := (HB.out.cell (wB_ w _ hx231_0)).trans hx231_0
                     have HR231_0 := aM_ hi231_0
                     have HC231_0 := aM_ hl231_0
                     clear hi231_0 hl231_0
                     replace p231 := eq_true p231
                     replace q231 := eq_true q231
                     have p232 : 0 ≤ (a3 : Int) := of_decide_eq_true (by (with_reducible assumption))
                     have q232 : a3 < (l1.length : Int) := of_decide_eq_true (by (with_reducible assumption))
                     obtain ⟨ad232, A232_0, c232_0, e232, hx232_0, hl232_0, hi232_0⟩ := at_L7 HR1.out a3 p232 q232
                     obtain rfl : ad231 = ad232 := (by injection e232)
                     replace hx232_0 := (HB.out.cell (wB_ w _ hx232_0)).trans hx232_0
                     have HR232_0 := aM_ hi232_0
                     have HC232_0 := aM_ hl232_0
                     clear hi232_0 hl232_0
                     replace p232 := eq_true p232
                     replace q232 := eq_true q232
                     have ea_ := Option.some.inj (hx231_0.symm.trans hx232_0)
                     injection ea_ with ea_ en_ ec_
                     subst ea_
                     subst ec_
                     clear en_
                     have p233 : 0 ≤ (x11_2 : Int) := of_decide_eq_true (by (with_reducible assumption))
                     have q233 : x11_2 < ((rd_L7 l1 a3).length : Int) := of_decide_eq_true (by (with_reducible assumption))
                     obtain ⟨ad233, e233, hx233_0⟩ := Kd.at_int HR232_0.out x11_2 p233 q233
                     cases e233
                     replace hx233_0 := (HB.out.cell (wB_ w _ hx233_0)).trans hx233_0
                     replace p233 := eq_true p233
                     replace q233 := eq_true q233
                     have p234 : 0 ≤ (a4 : Int) := of_decide_eq_true (by (with_reducible assumption))
                     have q234 : a4 < (l1.length : Int) := of_decide_eq_true (by (with_reducible assumption))
                     obtain ⟨ad234, A234_0, c234_0, e234, hx234_0, hl234_0, hi234_0⟩ := at_L7 HR1.out a4 p234 q234
                     obtain rfl : ad231 = ad234 := (by injection e234)
                     replace hx234_0 := (HB.out.cell (wB_ w _ hx234_0)).trans hx234_0
                     have HR234_0 := aM_ hi234_0
                     have HC234_0 := aM_ hl234_0
                     clear hi234_0 hl234_0
                     replace p234 := eq_true p234
                     replace q234 := eq_true q234
                     have p235 : 0 ≤ (x11_2 : Int) := of_decide_eq_true (by (with_reducible assumption))
                     have q235 : x11_2 < ((rd_L7 l1 a4).length : Int) := of_decide_eq_true (by (with_reducible assumption))
                     obtain ⟨ad235, e235, hx235_0⟩ := Kd.at_int HR234_0.out x11_2 p235 q235
                     cases e235
                     replace hx235_0 := (HB.out.cell (wB_ w _ hx235_0)).trans hx235_0
                     replace p235 := eq_true p235
                     replace q235 := eq_true q235
                     have hcz34_0 : wr.cell? ⟨gb226, 0, none⟩ = some (.slice A0_0 l0_0.length c0_0) := (bC_ BK226.out 0).trans rfl
                     have hfz34_0 := bF_ BK226.out 0
                     have p236 : 0 ≤ ((rd (rd_L7 l1 a3) x11_2) : Int) := of_decide_eq_true (by (with_reducible assumption))
                     have q236 : (rd (rd_L7 l1 a3) x11_2) < (l0_0.length : Int) := of_decide_eq_true (by (with_reducible assumption))
                     obtain ⟨ad236, e236, hx236_0, hx236_1, hx236_2⟩ := at_T65 HR0_0.out (rd (rd_L7 l1 a3) x11_2) p236 q236
                     cases e236
                     replace hx236_0 := (HB.out.cell (wB_ w _ hx236_0)).trans hx236_0
                     replace hx236_1 := (HB.out.cell (wB_ w _ hx236_1)).trans hx236_1
                     replace hx236_2 := (HB.out.cell (wB_ w _ hx236_2)).trans hx236_2
                     replace p236 := eq_true p236
                     replace q236 := eq_true q236
                     have p237 : 0 ≤ ((rd (rd_L7 l1 a4) x11_2) : Int) := of_decide_eq_true (by (with_reducible assumption))
                     have q237 : (rd (rd_L7 l1 a4) x11_2) < (l0_0.length : Int) := of_decide_eq_true (by (with_reducible assumption))
                     obtain ⟨ad237, e237, hx237_0, hx237_1, hx237_2⟩ := at_T65 HR0_0.out (rd (rd_L7 l1 a4) x11_2) p237 q237
                     obtain rfl : ad236 = ad237 := (by injection e237)
                     replace hx237_0 := (HB.out.cell (wB_ w _ hx237_0)).trans hx237_0
                     replace hx237_1 := (HB.out.cell (wB_ w _ hx237_1)).trans hx237_1
                     replace hx237_2 := (HB.out.cell (wB_ w _ hx237_2)).trans hx237_2
                     replace p237 := eq_true p237
                     replace q237 := eq_true q237
                     have p238 : 0 ≤ ((rd (rd_L7 l1 a3) x11_2) : Int) := of_decide_eq_true (by (with_reducible assumption))
                     have q238 : (rd (rd_L7 l1 a3) x11_2) < (l2.length : Int) := of_decide_eq_true (by (with_reducible assumption))
                     obtain ⟨ad238, e238, hx238_0⟩ := Kd.at_int HR2.out (rd (rd_L7 l1 a3) x11_2) p238 q238
                     cases e238
                     replace hx238_0 := (HB.out.cell (wB_ w _ hx238_0)).trans hx238_0
                     replace p238 := eq_true p238
                     replace q238 := eq_true q238
                     have p239 : 0 ≤ ((rd (rd_L7 l1 a4) x11_2) : Int) := of_decide_eq_true (by (with_reducible assumption))
                     have q239 : (rd (rd_L7 l1 a4) x11_2) < (l2.length : Int) := of_decide_eq_true (by (with_reducible assumption))
                     obtain ⟨ad239, e239, hx239_0⟩ := Kd.at_int HR2.out (rd (rd_L7 l1 a4) x11_2) p239 q239
                     obtain rfl : ad238 = ad239 := (by injection e239)
                     replace hx239_0 := (HB.out.cell (wB_ w _ hx239_0)).trans hx239_0
                     replace p239 := eq_true p239
                     replace q239 := eq_true q239
                     go_wp2
                     repeat (go_quiet (fail); try go_wp2)
                     go_ret
                     exact ⟨by rfl, by repeat (first | (with_reducible first | exact HB.out | apply bA_ | apply bN_ | apply bD_ | refine bS_ ?_ GE226.out) | exact HB.out)⟩
                   ·
                    rw [if_neg c31] at H
                    exact absurd H (by simp)
                  ·
                   rw [if_neg c30] at H
                   exact absurd H (by simp)
                 ·
                  rw [if_neg c29] at H
                  have c29b0 : (((rd_T65 l0_0 (rd (rd_L7 l1 a3) x11_2)).f0) == ((rd_T65 l0_0 (rd (rd_L7 l1 a4) x11_2)).f0)) = false := beq_eq_false_iff_ne.mpr c29
                  have c29b1 : (((rd_T65 l0_0 (rd (rd_L7 l1 a3) x11_2)).f0) != ((rd_T65 l0_0 (rd (rd_L7 l1 a4) x11_2)).f0)) = true := bne_iff_ne.mpr c29
                  obtain rfl := Option.some.inj H
                  have p231 : 0 ≤ (a3 : Int) := of_decide_eq_true (by (with_reducible assumption))
                  have q231 : a3 < (l1.length : Int) := of_decide_eq_true (by (with_reducible assumption))
                  obtain ⟨ad231, A231_0, c231_0, e231, hx231_0, hl231_0, hi231_0⟩ := at_L7 HR1.out a3 p231 q231
                  cases e231
                  replace hx231_0 := (HB.out.cell (wB_ w _ hx231_0)).trans hx231_0
                  have HR231_0 := aM_ hi231_0
                  have HC231_0 := aM_ hl231_0
                  clear hi231_0 hl231_0
                  replace p231 := eq_true p231
                  replace q231 := eq_true q231
                  have p232 : 0 ≤ (a3 : Int) := of_decide_eq_true (by (with_reducible assumption))
                  have q232 : a3 < (l1.length : Int) := of_decide_eq_true (by (with_reducible assumption))
                  obtain ⟨ad232, A232_0, c232_0, e232, hx232_0, hl232_0, hi232_0⟩ := at_L7 HR1.out a3 p232 q232
                  obtain rfl : ad231 = ad232 := (by injection e232)
                  replace hx232_0 := (HB.out.cell (wB_ w _ hx232_0)).trans hx232_0
                  have HR232_0 := aM_ hi232_0
                  have HC232_0 := aM_ hl232_0
                  clear hi232_0 hl232_0
                  replace p232 := eq_true p232
                  replace q232 := eq_true q232
                  have ea_ := Option.some.inj (hx231_0.symm.trans hx232_0)
                  injection ea_ with ea_ en_ ec_
                  subst ea_
                  subst ec_
                  clear en_
                  have p233 : 0 ≤ (x11_2 : Int) := of_decide_eq_true (by (with_reducible assumption))
                  have q233 : x11_2 < ((rd_L7 l1 a3).length : Int) := of_decide_eq_true (by (with_reducible assumption))
                  obtain ⟨ad233, e233, hx233_0⟩ := Kd.at_int HR232_0.out x11_2 p233 q233
                  cases e233
                  replace hx233_0 := (HB.out.cell (wB_ w _ hx233_0)).trans hx233_0
                  replace p233 := eq_true p233
                  replace q233 := eq_true q233
                  have p234 : 0 ≤ (a4 : Int) := of_decide_eq_true (by (with_reducible assumption))
                  have q234 : a4 < (l1.length : Int) := of_decide_eq_true (by (with_reducible assumption))
                  obtain ⟨ad234, A234_0, c234_0, e234, hx234_0, hl234_0, hi234_0⟩ := at_L7 HR1.out a4 p234 q234
                  obtain rfl : ad231 = ad234 := (by injection e234)
                  replace hx234_0 := (HB.out.cell (wB_ w _ hx234_0)).trans hx234_0
                  have HR234_0 := aM_ hi234_0
                  have HC234_0 := aM_ hl234_0
                  clear hi234_0 hl234_0
                  replace p234 := eq_true p234
                  replace q234 := eq_true q234
                  have p235 : 0 ≤ (x11_2 : Int) := of_decide_eq_true (by (with_reducible assumption))
                  have q235 : x11_2 < ((rd_L7 l1 a4).length : Int) := of_decide_eq_true (by (with_reducible assumption))
                  obtain ⟨ad235, e235, hx235_0⟩ := Kd.at_int HR234_0.out x11_2 p235 q235
                  cases e235
                  replace hx235_0 := (HB.out.cell (wB_ w _ hx235_0)).trans hx235_0
                  replace p235 := eq_true p235
                  replace q235 := eq_true q235
                  have hcz35_0 : wr.cell? ⟨gb226, 0, none⟩ = some (.slice A0_0 l0_0.length c0_0) := (bC_ BK226.out 0).trans rfl
                  have hfz35_0 := bF_ BK226.out 0
                  have p236 : 0 ≤ ((rd (rd_L7 l1 a3) x11_2) : Int) := of_decide_eq_true (by (with_reducible assumption))
                  have q236 : (rd (rd_L7 l1 a3) x11_2) < (l0_0.length : Int) := of_decide_eq_true (by (with_reducible assumption))
                  obtain ⟨ad236, e236, hx236_0, hx236_1, hx236_2⟩ := at_T65 HR0_0.out (rd (rd_L7 l1 a3) x11_2) p236 q236
                  cases e236
                  replace hx236_0 := (HB.out.cell (wB_ w _ hx236_0)).trans hx236_0
                  replace hx236_1 := (HB.out.cell (wB_ w _ hx236_1)).trans hx236_1
                  replace hx236_2 := (HB.out.cell (wB_ w _ hx236_2)).trans hx236_2
                  replace p236 := eq_true p236
                  replace q236 := eq_true q236
                  have p237 : 0 ≤ ((rd (rd_L7 l1 a4) x11_2) : Int) := of_decide_eq_true (by (with_reducible assumption))
                  have q237 : (rd (rd_L7 l1 a4) x11_2) < (l0_0.length : Int) := of_decide_eq_true (by (with_reducible assumption))
                  obtain ⟨ad237, e237, hx237_0, hx237_1, hx237_2⟩ := at_T65 HR0_0.out (rd (rd_L7 l1 a4) x11_2) p237 q237
                  obtain rfl : ad236 = ad237 := (by injection e237)
                  replace hx237_0 := (HB.out.cell (wB_ w _ hx237_0)).trans hx237_0
                  replace hx237_1 := (HB.out.cell (wB_ w _ hx237_1)).trans hx237_1
                  replace hx237_2 := (HB.out.cell (wB_ w _ hx237_2)).trans hx237_2
                  replace p237 := eq_true p237
                  replace q237 := eq_true q237
                  go_wp2
                  repeat (go_quiet (fail); try go_wp2)
                  go_ret
                  exact ⟨by rfl, by repeat (first | (with_reducible first | exact HB.out | apply bA_ | apply bN_ | apply bD_ | refine bS_ ?_ GE226.out) | exact HB.out)⟩
                ·
                 rw [if_neg c28] at H
                 exact absurd H (by simp)
               ·
                rw [if_neg c27] at H
                exact absurd H (by simp)
              ·
               rw [if_neg c26] at H
               exact absurd H (by simp)
             ·
              rw [if_neg c25] at H
              exact absurd H (by simp)
            ·
             rw [if_neg c24] at H
             exact absurd H (by simp)
           ·
            rw [if_neg c23] at H
            exact absurd H (by simp)
          ·
           rw [if_neg c22] at H
           exact absurd H (by simp)
         ·
          rw [if_neg c21] at H
          exact absurd H (by simp)
        ·
         rw [if_neg c20] at H
         have c20b0 := decide_eq_false c20
         clear c20
         obtain rfl := Option.some.inj H
         have p231 : 0 ≤ (a3 : Int) := of_decide_eq_true (by (with_reducible assumption))
         have q231 : a3 < (l1.length : Int) := of_decide_eq_true (by (with_reducible assumption))
         obtain ⟨ad231, A231_0, c231_0, e231, hx231_0, hl231_0, hi231_0⟩ := at_L7 HR1.out a3 p231 q231
         cases e231
         replace hx231_0 := (HB.out.cell (wB_ w _ hx231_0)).trans hx231_0
         have HR231_0 := aM_ hi231_0
         have HC231_0 := aM_ hl231_0
         clear hi231_0 hl231_0
         replace p231 := eq_true p231
         replace q231 := eq_true q231
         go_wp2
         repeat (go_quiet (fail); try go_wp2)
         go_ret
         exact ⟨by rfl, by exact HB.out⟩
       ·
        rw [if_neg c19] at H
        exact absurd H (by simp)
      ·
       rw [if_neg c18] at H
       exact absurd H (by simp)
mutual
def spec_l7Ends.l0 : Nat → List (List Int) → List Int → Int → List (S65) → Option (List Int)
 | 0, _, _, _, _ => none
 | k + 1, x3, x4, x5, x241000 => if x5 ≥ 0 then (if 0 ≤ x5 then (if x5 < (x4.length : Int) then (spec_l7Ends.l1 k x3 (x4.set (x5 : Int).toNat x5) x5 (wrap64 ((x4.length : Int) - 1)) x241000) else (none)) else (none)) else (some x4)
def spec_l7Ends.l1 : Nat → List (List Int) → List Int → Int → Int → List (S65) → Option (List Int)
 | 0, _, _, _, _, _ => none
 | k + 1, x3, x4, x5, x6, x241000 => if x6 > x5 then (if 0 ≤ x6 then (if x6 < (x4.length : Int) then (if (rd x4 x6) = x6 then ((spec_l7Alike.f k x241000 x3 x4 x5 x6).bind fun t249 => (if t249 = true then (if 0 ≤ x5 then (if x5 < (x4.length : Int) then (spec_l7Ends.l0 k x3 (x4.set (x5 : Int).toNat x6) (wrap64 (x5 - 1)) x241000) else (none)) else (none)) else (spec_l7Ends.l1 k x3 x4 x5 (wrap64 (x6 - 1)) x241000))) else (spec_l7Ends.l1 k x3 x4 x5 (wrap64 (x6 - 1)) x241000)) else (none)) else (none)) else (spec_l7Ends.l0 k x3 x4 (wrap64 (x5 - 1)) x241000)
end
def spec_l7Ends.f (k : Nat) (l0_0 : List (S65)) : Option (List Int) := (spec_l7Kids.f k l0_0).bind fun t241 => (if 0 ≤ (l0_0.length : Int) then (if ((l0_0.length : Int) : Int).toNat ≤ 35184372088832 then ((some (List.replicate ((l0_0.length : Int) : Int).toNat 0 : List Int)).bind fun y244 => (spec_l7Ends.l0 k t241 y244 (wrap64 ((y244.length : Int) - 1)) l0_0)) else (none)) else (none))
theorem spec_l7Ends.mono_l : ∀ k, (∀ y0 y1 y2 y3, LeO (spec_l7Ends.l0 k y0 y1 y2 y3) (spec_l7Ends.l0 (k + 1) y0 y1 y2 y3)) ∧ (∀ y0 y1 y2 y3 y4, LeO (spec_l7Ends.l1 k y0 y1 y2 y3 y4) (spec_l7Ends.l1 (k + 1) y0 y1 y2 y3 y4))
 | 0 => ⟨fun _ _ _ _ r h => by simp [spec_l7Ends.l0] at h, fun _ _ _ _ _ r h => by simp [spec_l7Ends.l1] at h⟩
 | k + 1 => by
  obtain ⟨ih0, ih1⟩ := spec_l7Ends.mono_l k
  refine ⟨?_, ?_⟩
  ·
   intro y0 y1 y2 y3
   unfold spec_l7Ends.l0
   repeat' first
   | (with_reducible exact ih0 _ _ _ _)
   | (with_reducible exact ih1 _ _ _ _ _)
   | (with_reducible exact spec_l7Alike.mono _ _ _ _ _ _)
   | (with_reducible exact spec_l7Kids.mono _ _)
   | (with_reducible exact l3_ _)
   | (with_reducible exact l0_ _)
   | (with_reducible refine l2_ ?_ ?_)
   | (with_reducible refine l1_ ?_ (fun _ => ?_))
   | exact ih0 _ _ _ _
   | exact ih1 _ _ _ _ _
   | exact spec_l7Alike.mono _ _ _ _ _ _
   | exact spec_l7Kids.mono _ _
   | exact l0_ _
   | refine l2_ ?_ ?_
   | refine l1_ ?_ (fun _ => ?_)
  ·
   intro y0 y1 y2 y3 y4
   unfold spec_l7Ends.l1
   repeat' first
   | (with_reducible exact ih0 _ _ _ _)
   | (with_reducible exact ih1 _ _ _ _ _)
   | (with_reducible exact spec_l7Alike.mono _ _ _ _ _ _)
   | (with_reducible exact spec_l7Kids.mono _ _)
   | (with_reducible exact l3_ _)
   | (with_reducible exact l0_ _)
   | (with_reducible refine l2_ ?_ ?_)
   | (with_reducible refine l1_ ?_ (fun _ => ?_))
   | exact ih0 _ _ _ _
   | exact ih1 _ _ _ _ _
   | exact spec_l7Alike.mono _ _ _ _ _ _
   | exact spec_l7Kids.mono _ _
   | exact l0_ _
   | refine l2_ ?_ ?_
   | refine l1_ ?_ (fun _ => ?_)
theorem spec_l7Ends.mono : ∀ a0 k, LeO (spec_l7Ends.f k a0) (spec_l7Ends.f (k + 1) a0) := by
 intro a0 k
 obtain ⟨ih0, ih1⟩ := spec_l7Ends.mono_l k
 unfold spec_l7Ends.f
 repeat' first
   | (with_reducible exact ih0 _ _ _ _)
   | (with_reducible exact ih1 _ _ _ _ _)
   | (with_reducible exact spec_l7Alike.mono _ _ _ _ _ _)
   | (with_reducible exact spec_l7Kids.mono _ _)
   | (with_reducible exact l3_ _)
   | (with_reducible exact l0_ _)
   | (with_reducible refine l2_ ?_ ?_)
   | (with_reducible refine l1_ ?_ (fun _ => ?_))
   | exact ih0 _ _ _ _
   | exact ih1 _ _ _ _ _
   | exact spec_l7Alike.mono _ _ _ _ _ _
   | exact spec_l7Kids.mono _ _
   | exact l0_ _
   | refine l2_ ?_ ?_
   | refine l1_ ?_ (fun _ => ?_)
def spec_l7Ends.T1 : Bool × List (List Nat × List Nat) := (true, [([], []), ([0], [0]), ([], []), ([2], [2]), ([3], [3]), ([4, 4], [4]), ([1, 1, 0, 1], [1]), ([5, 6, 0, 1, 2, 3, 4, 5, 6], [5])])
def spec_l7Ends.B1 : List Nat := [0, 1, 0, 4, 12, 28, 3, 127]
theorem spec_l7Ends.tab1 : rtab .any (opsOf Try.f21 1) = spec_l7Ends.T1 := by kernel_rfl
theorem spec_l7Ends.bits1 : waitsOk spec_l7Ends.T1.2 spec_l7Ends.B1 = true := by kernel_rfl
theorem spec_l7Ends.calls (k : Nat) (A0_0 : Option Addr) (c0_0 : Nat) (l0_0 : List (S65)) (r : List Int) (w : World) (hr0_0 : Kd.C k65 w A0_0 l0_0.length l0_0) (hc0_0 : l0_0.length ≤ c0_0) (h : spec_l7Ends.f k l0_0 = some r) :
  Calls Try.prog 21 #[.agg #[.slice A0_0 l0_0.length c0_0]] w fun e w' => ∃ v0_ : Value, e = .returned (v0_) ∧ Kd.R (Kd.int .i64) 3 w' w.heap.size (fun _ => True) v0_ r ∧ Below w.heap.size w w' := by
 have hu30 := Try.underlying30
 have HR0_0 := aM_ hr0_0
 have HC0_0 := aM_ hc0_0
 clear hr0_0 hc0_0
 have HB := aM_ (Below.refl w.heap.size w)
 have H : ((spec_l7Kids.f k l0_0).bind fun t241 => (if 0 ≤ (l0_0.length : Int) then (if ((l0_0.length : Int) : Int).toNat ≤ 35184372088832 then ((some (List.replicate ((l0_0.length : Int) : Int).toNat 0 : List Int)).bind fun y244 => (spec_l7Ends.l0 k t241 y244 (wrap64 ((y244.length : Int) - 1)) l0_0)) else (none)) else (none))) = some r := h
 clear h
 replace H := oB_.mp H
 obtain ⟨t241, A20, H⟩ := H
 try dsimp only at H
 have A2 := aM_ A20
 clear A20
 by_cases c3 : 0 ≤ (l0_0.length : Int)
 rotate_left
 ·
  rw [if_neg c3] at H
  exact absurd H (by simp)
 rw [if_pos c3] at H
 have c3b0 := eq_true c3
 have c3b1 := decide_eq_true c3
 clear c3
 by_cases c4 : ((l0_0.length : Int) : Int).toNat ≤ 35184372088832
 rotate_left
 ·
  rw [if_neg c4] at H
  exact absurd H (by simp)
 rw [if_pos c4] at H
 have c4b0 := eq_true c4
 have c4b1 := decide_eq_true c4
 clear c4
 obtain ⟨y244, hy244⟩ : ∃ y_ : List Int, y_ = (List.replicate ((l0_0.length : Int) : Int).toNat 0) := ⟨_, rfl⟩
 replace H : (spec_l7Ends.l0 k t241 y244 (wrap64 ((y244.length : Int) - 1)) l0_0) = some r := by first | (rw [hy244]; with_reducible exact H) | (have H2_ := (Option.bind_some _ _).symm.trans H; rw [hy244]; with_reducible exact H2_) | (have H2_ := (Option.bind_some _ _).symm.trans H; with_reducible exact H2_) | with_reducible exact H | (rw [hy244]; exact H) | exact H
 have Ny244 := aM_ hy244
 clear hy244
 have H' := aM_ H
 clear H
 go_enter Try.func21, Try.ntmps21
 try go_wp2_with (first | ((with_reducible refine gD_ (N := 1) rfl ?_); refine bE_ ?hg (N := 1) ?hd (cs := #[.slice A0_0 l0_0.length c0_0]) (t := 30) ?hr ?_; (case hd => rfl); (case hg => rfl); (case hr => (go_simp; done)); intro gb240 hg w5 hbox hb; have BK240 := aM_ (hbox); have GW240 := aM_ ((by rw [hg]; exact (bZ_ HB.out) : w.heap.size ≤ gb240)); have GE240 := GW240; replace HB := aM_ (bT_ HB.out hb); clear hb hbox hg))
 have n0_ := aM_ (b1_ BK240.out)
 have n1_ := aM_ (bD_ HB.out)
 clear BK240
 clear HB
 have BK240 := n0_
 have HB := n1_
 clear n0_ n1_
 refine start_ (n := 8) (S := fun w' => w'.cell? ⟨gb240, 0, none⟩ = some (.slice A0_0 l0_0.length c0_0)) (ds := []) #[fy, fy, fy, fy, fy, fy, fy, fy] (by kernel_rfl) rfl rfl ((bC_ BK240.out 0).trans rfl) (fun hHeld => ?_); refine with_tabW spec_l7Ends.tab1 spec_l7Ends.bits1 (fun HT_ HW_ => ?_)
 generalize w5.drew = w6 at BK240 HB hHeld ⊢
 refine pure_ (i := 2) (N := some 9) (v := ?_) (a' := ?_) #[fy, fy, ty, fy, fy, fy, fy, fy] rfl rfl (aO_ HT_.out (by kernel_rfl)) (fun _ _ _ h => h) (Or.inl ⟨by rfl, ?_⟩) ?_ ?_; rotate_left; (intro w'; go_simp; with_reducible rfl); rotate_left; (simp only [Act.put, sA_, sB_, sC_, i6_, i3_]; rfl)
 refine take_ (i := 0) (N := some 7) (v := ?_) (a' := ?_) #[ty, fy, ty, fy, fy, fy, fy, fy] rfl rfl (tW_ HT_.out HW_.out (by kernel_rfl)) (fun _ _ _ h => h) (Or.inl ⟨by rfl, ?_⟩) hHeld ?_ ?_; rotate_left; (intro w' s0; go_simp; with_reducible rfl); rotate_left; (simp only [Act.put, sA_, sB_, sC_, i6_, i3_]; rfl)
 refine take_ (i := 3) (N := some 10) (v := ?_) (a' := ?_) #[ty, fy, ty, ty, fy, fy, fy, fy] rfl rfl (tW_ HT_.out HW_.out (by kernel_rfl)) (fun _ _ _ h => h) (Or.inl ⟨by rfl, ?_⟩) hHeld ?_ ?_; rotate_left; (intro w' s0; go_simp; with_reducible rfl); rotate_left; (simp only [Act.put, sA_, sB_, sC_, i6_, i3_]; rfl)
 refine pure_ (i := 4) (N := some 11) (v := ?_) (a' := ?_) #[ty, fy, ty, ty, ty, fy, fy, fy] rfl rfl (aO_ HT_.out (by kernel_rfl)) (fun _ _ _ h => h) (Or.inl ⟨by rfl, ?_⟩) ?_ ?_; rotate_left; (intro w'; go_simp; with_reducible rfl); rotate_left; (simp only [Act.put, sA_, sB_, sC_, i6_, i3_]; rfl)
 refine join_ (σ := Value × Value) 1 #[ty, ty, ty, ty, ty, ty, ty, fy] (fun s_ => [(8, s_.1), (12, s_.2), (3, s_.1)]) (fun s_ w' => (w'.cell? ⟨gb240, 0, none⟩ = some (.slice A0_0 l0_0.length c0_0)) ∧ (Kd.S (Kd.slice 3 (Kd.int .i64)) 47 w' w.heap.size (fun k_ => some k_ ≠ (s_.2 : Value).ownBlock) s_.1 t241) ∧ (Kd.R (Kd.int .i64) 3 w' w.heap.size (fun _ => True) s_.2 y244) ∧ (w'.heap[gb240]? = some (.cells #[.slice A0_0 l0_0.length c0_0] 30 (0, 0))) ∧ (Below w.heap.size w w')) ?_ ?_
 rotate_left
 ·
  intro hCont
  refine two_ (i := 1) (j := 5) (Ni := some 8) (Nj := some 12) #[ty, ty, ty, ty, ty, fy, fy, fy] #[ty, fy, ty, ty, ty, ty, fy, fy] rfl rfl rfl rfl (two_of HT_.out (by kernel_rfl)) (by decide) (by decide) (fun K hK => ?_) (fun K hK => ?_)
  ·
   skip
   refine goes_ Try.func35 (by kernel_rfl) rfl #[.agg #[.slice A0_0 l0_0.length c0_0]] (by rfl) rfl rfl (by (try simp only [sD_, sE_, sF_]); rfl) ?_
   with_reducible refine (spec_l7Kids.calls k _ _ l0_0 t241 _ ?side1 ?side2 A2.out).mono ?_
   (case side1 => repeat (first | exact (k4_ HR0_0.out HB.out) | (with_reducible refine Kd.C_alloc ?_ _) | (with_reducible refine Kd.C_drewN ?_ _) | (with_reducible refine Kd.C_drew ?_)))
   (case side2 => exact HC0_0.out)
   rintro e w7 ⟨v242, rfl, ho0, hb⟩
   refine ⟨_, rfl, ?_⟩
   have n0_ := aM_ (Kd.S_lower ho0 (bZ_ HB.out))
   have n1_ := aM_ (bB_ BK240.out hb)
   have n2_ := aM_ (bT_ HB.out hb)
   clear BK240
   clear HB
   have HO243 := n0_
   have BK240 := n1_
   have HB := n2_
   clear n0_ n1_ n2_
   (try clear hb)
   (try clear ho0)
   refine hK.out _ _ ((bC_ BK240.out 0).trans rfl) (fun hHeld => ?_)
   clear hK K
   refine norm_ (a' := ?_) ?_ ?_; rotate_left; (show Act.put _ (some 8) _ = _; simp only [Act.put, sA_, sB_, sC_, i6_, i3_]; rfl)
   refine pure_ (i := 6) (N := some 3) (v := ?_) (a' := ?_) #[ty, ty, ty, ty, ty, fy, ty, fy] rfl rfl (aO_ HT_.out (by kernel_rfl)) (fun _ _ _ h => h) (Or.inl ⟨by rfl, ?_⟩) ?_ ?_; rotate_left; (intro w'; go_simp; with_reducible rfl); rotate_left; (simp only [Act.put, sA_, sB_, sC_, i6_, i3_]; rfl)
   refine one_ (i := 5) (N := some 12) #[ty, ty, ty, ty, ty, ty, ty, fy] rfl rfl (one_of HT_.out (by kernel_rfl)) (by decide) (fun K hK => ?_)
   refine Kd.R_make_step (Kd.int .i64) _ 3 (by rfl) (N := 12) rfl 47 _ _ rfl (l0_0.length : Int) rfl rfl Try.underlying47 (.int .i64 0) 8 info3 rfl (by decide) (by omega) 0 (ok := fun _ => True) (okp := fun _ => True) rfl (fun _ hk => hk) trivial (of_decide_eq_true (by (with_reducible assumption))) (Nat.le_trans (Nat.mul_le_mul_right _ (of_decide_eq_true (by (with_reducible assumption)) : (l0_0.length : Int).toNat ≤ 35184372088832)) (by omega)) (Below.refl _ _) (Nat.le_refl _) ?_
   intro v245 w8 ho9 hb hg_ hnew_
   clear hg_ hnew_
   (rw [← Ny244.out] at ho9)
   have n0_ := aM_ (Kd.S_elder' (by (with_reducible repeat (first | apply Kd.S_alloc | apply Kd.S_drewN | apply Kd.S_drew)); exact HO243.out) (Kd.R_base ho9) hb)
   have n1_ := aM_ (k5_ ho9 (bZ_ HB.out))
   have n2_ := aM_ (bB_ BK240.out hb)
   have n3_ := aM_ (bT_ HB.out hb)
   clear HO243
   clear BK240
   clear HB
   have HO243 := n0_
   have HO246 := n1_
   have BK240 := n2_
   have HB := n3_
   clear n0_ n1_ n2_ n3_
   clear hb ho9
   refine hK.out _ _ ((bC_ BK240.out 0).trans rfl) (fun hHeld => ?_)
   clear hK K
   refine norm_ (a' := ?_) ?_ ?_; rotate_left; (show Act.put _ (some 12) _ = _; simp only [Act.put, sA_, sB_, sC_, i6_, i3_]; rfl)
   exact norm_ (by simp only [putAll, Act.put, sA_, sB_, sC_]) (hCont (v242, v245) _ ⟨hHeld, (by (with_reducible repeat (first | apply Kd.S_alloc | apply Kd.S_drewN | apply Kd.S_drew)); exact Kd.S_mono HO243.out (fun _ hk => hk.2)), HO246.out, BK240.out, HB.out⟩)
  ·
   skip
   refine Kd.R_make_step (Kd.int .i64) _ 3 (by rfl) (N := 12) rfl 47 _ _ rfl (l0_0.length : Int) rfl rfl Try.underlying47 (.int .i64 0) 8 info3 rfl (by decide) (by omega) 0 (ok := fun _ => True) (okp := fun _ => True) rfl (fun _ hk => hk) trivial (of_decide_eq_true (by (with_reducible assumption))) (Nat.le_trans (Nat.mul_le_mul_right _ (of_decide_eq_true (by (with_reducible assumption)) : (l0_0.length : Int).toNat ≤ 35184372088832)) (by omega)) (Below.refl _ _) (Nat.le_refl _) ?_
   intro v245 w7 ho8 hb hg_ hnew_
   clear hg_ hnew_
   (rw [← Ny244.out] at ho8)
   have n0_ := aM_ (k5_ ho8 (bZ_ HB.out))
   have n1_ := aM_ (bB_ BK240.out hb)
   have n2_ := aM_ (bT_ HB.out hb)
   clear BK240
   clear HB
   have HO246 := n0_
   have BK240 := n1_
   have HB := n2_
   clear n0_ n1_ n2_
   clear hb ho8
   refine hK.out _ _ ((bC_ BK240.out 0).trans rfl) (fun hHeld => ?_)
   clear hK K
   refine norm_ (a' := ?_) ?_ ?_; rotate_left; (show Act.put _ (some 12) _ = _; simp only [Act.put, sA_, sB_, sC_, i6_, i3_]; rfl)
   refine one_ (i := 1) (N := some 8) #[ty, ty, ty, ty, ty, ty, fy, fy] rfl rfl (one_of HT_.out (by kernel_rfl)) (by decide) (fun K hK => ?_)
   refine goes_ Try.func35 (by kernel_rfl) rfl #[.agg #[.slice A0_0 l0_0.length c0_0]] (by rfl) rfl rfl (by (try simp only [sD_, sE_, sF_]); rfl) ?_
   with_reducible refine (spec_l7Kids.calls k _ _ l0_0 t241 _ ?side1 ?side2 A2.out).mono ?_
   (case side1 => repeat (first | exact (k4_ HR0_0.out HB.out) | (with_reducible refine Kd.C_alloc ?_ _) | (with_reducible refine Kd.C_drewN ?_ _) | (with_reducible refine Kd.C_drew ?_)))
   (case side2 => exact HC0_0.out)
   rintro e w9 ⟨v242, rfl, ho0, hb⟩
   refine ⟨_, rfl, ?_⟩
   have n0_ := aM_ (kB_ HO246.out hb)
   have n1_ := aM_ (Kd.S_lower (Kd.S_new' ho0 (Kd.R_lt HO246.out)) (bZ_ HB.out))
   have n2_ := aM_ (bB_ BK240.out hb)
   have n3_ := aM_ (bT_ HB.out hb)
   clear HO246
   clear BK240
   clear HB
   have HO246 := n0_
   have HO243 := n1_
   have BK240 := n2_
   have HB := n3_
   clear n0_ n1_ n2_ n3_
   (try clear hb)
   (try clear ho0)
   refine hK.out _ _ ((bC_ BK240.out 0).trans rfl) (fun hHeld => ?_)
   clear hK K
   refine norm_ (a' := ?_) ?_ ?_; rotate_left; (show Act.put _ (some 8) _ = _; simp only [Act.put, sA_, sB_, sC_, i6_, i3_]; rfl)
   refine pure_ (i := 6) (N := some 3) (v := ?_) (a' := ?_) #[ty, ty, ty, ty, ty, ty, ty, fy] rfl rfl (aO_ HT_.out (by kernel_rfl)) (fun _ _ _ h => h) (Or.inl ⟨by rfl, ?_⟩) ?_ ?_; rotate_left; (intro w'; go_simp; with_reducible rfl); rotate_left; (simp only [Act.put, sA_, sB_, sC_, i6_, i3_]; rfl)
   exact norm_ (by simp only [putAll, Act.put, sA_, sB_, sC_]) (hCont (v242, v245) _ ⟨hHeld, (by (with_reducible repeat (first | apply Kd.S_alloc | apply Kd.S_drewN | apply Kd.S_drew)); exact Kd.S_mono HO243.out (fun _ hk => hk.2)), HO246.out, BK240.out, HB.out⟩)
 rintro ⟨v242, v245⟩ w10 ⟨hS_, h0_, h1_, h2_, h3_⟩
 have n0_ : Aside0 (Kd.S (Kd.slice 3 (Kd.int .i64)) 47 w10 w.heap.size (fun k_ => some k_ ≠ (v245 : Value).ownBlock) v242 t241) := ⟨h0_⟩
 have n1_ : Aside0 (Kd.R (Kd.int .i64) 3 w10 w.heap.size (fun _ => True) v245 y244) := ⟨h1_⟩
 have n2_ : Aside0 (w10.heap[gb240]? = some (.cells #[.slice A0_0 l0_0.length c0_0] 30 (0, 0))) := ⟨h2_⟩
 have n3_ : Aside0 (Below w.heap.size w w10) := ⟨h3_⟩
 clear BK240
 clear HB
 clear h0_ h1_ h2_ h3_
 have HO243 := n0_
 have HO246 := n1_
 have BK240 := n2_
 have HB := n3_
 clear n0_ n1_ n2_ n3_
 have hHeld : w10.cell? ⟨gb240, 0, none⟩ = some (.slice A0_0 l0_0.length c0_0) := hS_
 refine norm_ (a' := ?_) ?_ ?_
 rotate_left
 ·
  simp only [putAll, Act.put, sA_, sB_, sC_]
  rfl
 refine pure_ (i := 7) (N := some 4) (v := ?_) (a' := ?_) #[ty, ty, ty, ty, ty, ty, ty, ty] rfl rfl (aO_ HT_.out (by kernel_rfl)) (fun _ _ _ h => h) (Or.inl ⟨by rfl, ?_⟩) ?_ ?_; rotate_left; (intro w'; go_simp; with_reducible rfl); rotate_left; (simp only [Act.put, sA_, sB_, sC_, i6_, i3_]; rfl)
 refine done_ (done_of HT_.out (by kernel_rfl)) ?_
 obtain ⟨Ao11, co11, eo11⟩ := kS_ HO246.out
 subst eo11
 try go_wp2
 go_loopg [5] k (fun kq v5 w' => ∃ (x4_1 : List Int) (x5_1 : Int), v5 = .int .i64 x5_1 ∧ Aside0 (spec_l7Ends.l0 kq t241 x4_1 x5_1 l0_0 = some r) ∧ Aside0 (kq ≤ k) ∧ Aside0 (Kd.S (Kd.slice 3 (Kd.int .i64)) 47 w' w.heap.size (fun k_ => some k_ ≠ ((.slice Ao11 y244.length co11) : Value).ownBlock) v242 t241) ∧ Aside0 (Kd.R (Kd.int .i64) 3 w' w.heap.size (fun _ => True) (.slice Ao11 y244.length co11) x4_1) ∧ Aside0 (w'.heap[gb240]? = some (.cells #[(.slice A0_0 l0_0.length c0_0)] 30 (0, 0))) ∧ Aside0 (Below w.heap.size w w'))
 case atStart => exact ⟨(y244), (wrap64 ((y244.length : Int) - 1)), (by rfl), H', ⟨Nat.le_refl _⟩, ⟨by (with_reducible repeat (first | apply Kd.S_alloc | apply Kd.S_drewN | apply Kd.S_drew)); exact HO243.out⟩, ⟨HO246.out⟩, ⟨BK240.out⟩, ⟨HB.out⟩⟩
 case round =>
  clear H'
  try clear p2
  try clear c3b0
  try clear c3b1
  try clear c4b0
  try clear c4b1
  try clear p6
  obtain ⟨x4_1, x5_1, rfl, HA, HK1, HO_3, HO_4, BK240, HB⟩ := hrel
  have hl4_1 := (kR_ HO_4.out).1
  rw [hl4_1] at HO_4
  (try simp only [hl4_1])
  (try simp only [hl4_1] at BK240)
  (try simp only [hl4_1] at HO_3)
  cases gk with
  | zero => exact absurd HA.out (by simp [spec_l7Ends.l0])
  | succ k1 =>
   have H := HA.out
   clear HA
   simp only [spec_l7Ends.l0] at H
   by_cases c12 : x5_1 ≥ 0
   ·
    rw [if_pos c12] at H
    have c12b0 := decide_eq_true c12
    clear c12
    by_cases c13 : 0 ≤ x5_1
    ·
     rw [if_pos c13] at H
     have c13b0 := decide_eq_true c13
     clear c13
     by_cases c14 : x5_1 < (x4_1.length : Int)
     ·
      rw [if_pos c14] at H
      have c14b0 := decide_eq_true c14
      clear c14
      obtain ⟨y247, hy247⟩ : ∃ y_ : List Int, y_ = (x4_1.set (x5_1 : Int).toNat x5_1) := ⟨_, rfl⟩
      replace H : (spec_l7Ends.l1 k1 t241 y247 x5_1 (wrap64 ((x4_1.length : Int) - 1)) l0_0) = some r := by first | (rw [hy247]; with_reducible exact H) | (have H2_ := (Option.bind_some _ _).symm.trans H; rw [hy247]; with_reducible exact H2_) | (have H2_ := (Option.bind_some _ _).symm.trans H; with_reducible exact H2_) | with_reducible exact H | (rw [hy247]; exact H) | exact H
      have Ny247 := aM_ hy247
      clear hy247
      have H' := aM_ H
      clear H
      have p15 : 0 ≤ (x5_1 : Int) := of_decide_eq_true (by (with_reducible assumption))
      have q15 : (x5_1 : Int) < ((x4_1.length : Int) : Int) := of_decide_eq_true (by (with_reducible assumption))
      obtain ⟨go15, co15, eo15, gb15, gl15, cl15, HG15⟩ := Kd.R_form HO_4.out (by omega)
      (cases eo15)
      have GB15 := aM_ gb15
      have GG15 := aM_ HG15
      clear gb15 gl15 HG15
      obtain ⟨hx15_0, hf15_0⟩ := kC_ 0 HO_4.out (x5_1 : Int) p15 q15
      (try simp only [Int.toNat_natCast] at hx15_0 hf15_0)
      replace p15 := eq_true p15
      replace q15 := eq_true q15
      have HP16 := Kd.R_putg HO_4.out (x5_1 : Int) x5_1
      go_wp2_with (first | ((with_reducible refine gate_store (t := 3) (p := 23) rfl ?_); refine store_event (t := 3) (p := 23) (v := ?vo_w17) (w1 := (wr.setCell ⟨go15, (x5_1 : Int).toNat, none⟩ (.int .i64 x5_1))) ?hg ?ho ?hn ?hr ?_; (case ho => rfl); (case hg => rfl); (case hn => rfl); (case hr => (go_simp; done)); intro w17 hw; have hg : wr.grownBy w17 (some go15) := (by rw [hw]; exact HP16.2); have hp_ : Kd.R (Kd.int .i64) 3 w17 w.heap.size (fun _ => True) (.slice (some ⟨go15, 0, none⟩) x4_1.length co11) y247 := (by rw [hw, Ny247.out]; exact HP16.1); clear HP16; replace HO_3 := aM_ (Kd.S_after (v := (.slice (some ⟨go15, 0, none⟩) x4_1.length co11)) (v1 := (.slice (some ⟨go15, 0, none⟩) x4_1.length co11)) (ok := (fun _ => True)) (by (with_reducible repeat (first | apply Kd.S_alloc | apply Kd.S_drewN | apply Kd.S_drew)); exact Kd.S_mono HO_3.out (fun _ hk => ⟨trivial, hk⟩)) hg (.inl rfl)); replace BK240 := aM_ (blk_grown (g := gb240) (o := .cells #[.slice A0_0 l0_0.length c0_0] 30 (0, 0)) BK240.out hg (k6_ HO_4.out BK240.out (by decide))); replace HO_4 := aM_ (hp_); replace HB := aM_ ((by rw [hw]; exact bS_ (HB.out) GB15.out : Below w.heap.size w w17)); clear hg hw hp_))
      go_loopg [6] k1 (fun kq v6 w' => ∃ (x4_2 : List Int) (x6_2 : Int), v6 = .int .i64 x6_2 ∧ Aside0 (spec_l7Ends.l1 kq t241 x4_2 x5_1 x6_2 l0_0 = some r) ∧ Aside0 (kq ≤ k1) ∧ Aside0 (Kd.S (Kd.slice 3 (Kd.int .i64)) 47 w' w.heap.size (fun k_ => some k_ ≠ ((.slice (some ⟨go15, 0, none⟩) x4_1.length co11) : Value).ownBlock) v242 t241) ∧ Aside0 (Kd.R (Kd.int .i64) 3 w' w.heap.size (fun _ => True) (.slice (some ⟨go15, 0, none⟩) x4_1.length co11) x4_2) ∧ Aside0 (w'.heap[gb240]? = some (.cells #[(.slice A0_0 l0_0.length c0_0)] 30 (0, 0))) ∧ Aside0 (Below w.heap.size w w'))
      case atStart => exact ⟨(y247), (wrap64 ((x4_1.length : Int) - 1)), (by rfl), H', ⟨Nat.le_refl _⟩, ⟨by (try simp only [hl4_1]); (with_reducible repeat (first | apply Kd.S_alloc | apply Kd.S_drewN | apply Kd.S_drew)); exact Kd.S_mono HO_3.out (fun _ hk => hk.2)⟩, ⟨by (try simp only [hl4_1]); exact HO_4.out⟩, ⟨by (try simp only [hl4_1]); exact BK240.out⟩, ⟨HB.out⟩⟩
      case round =>
       clear H'
       try clear p1
       try clear q1
       try clear hx1
       try clear hf1
       try clear p2
       try clear c3b0
       try clear c3b1
       try clear c4b0
       try clear c4b1
       try clear p6
       try clear c12b0
       try clear c13b0
       try clear c14b0
       try clear p15
       try clear q15
       try clear hx15
       try clear hf15
       try clear hx15_0
       try clear p15
       try clear p2
       try clear p6
       try clear q15
       obtain ⟨x4_2, x6_2, rfl, HA, HK2, HO_3, HO_4, BK240, HB⟩ := hrel
       have hl4_2 := (kR_ HO_4.out).1
       rw [hl4_2] at HO_4
       (try simp only [hl4_2])
       (try simp only [hl4_2] at BK240)
       (try simp only [hl4_2] at HO_3)
       cases gk with
       | zero => exact absurd HA.out (by simp [spec_l7Ends.l1])
       | succ k2 =>
        have H := HA.out
        clear HA
        simp only [spec_l7Ends.l1] at H
        by_cases c18 : x6_2 > x5_1
        ·
         rw [if_pos c18] at H
         have c18b0 := decide_eq_true c18
         clear c18
         by_cases c19 : 0 ≤ x6_2
         ·
          rw [if_pos c19] at H
          have c19b0 := decide_eq_true c19
          clear c19
          by_cases c20 : x6_2 < (x4_2.length : Int)
          ·
           rw [if_pos c20] at H
           have c20b0 := decide_eq_true c20
           clear c20
           by_cases c21 : (rd x4_2 x6_2) = x6_2
           ·
            rw [if_pos c21] at H
            have c21b0 : ((rd x4_2 x6_2) == x6_2) = true := beq_iff_eq.mpr c21
            have c21b1 : ((rd x4_2 x6_2) != x6_2) = false := bne_eq_false_iff_eq.mpr c21
            clear c21
            replace H := oB_.mp H
            obtain ⟨t249, A220, H⟩ := H
            try dsimp only at H
            have A22 := aM_ A220
            clear A220
            by_cases c23 : t249 = true
            ·
             subst c23
             rw [if_pos rfl] at H
             by_cases c24 : 0 ≤ x5_1
             ·
              rw [if_pos c24] at H
              have c24b0 := decide_eq_true c24
              clear c24
              by_cases c25 : x5_1 < (x4_2.length : Int)
              ·
               rw [if_pos c25] at H
               have c25b0 := decide_eq_true c25
               clear c25
               obtain ⟨y250, hy250⟩ : ∃ y_ : List Int, y_ = (x4_2.set (x5_1 : Int).toNat x6_2) := ⟨_, rfl⟩
               replace H : (spec_l7Ends.l0 k2 t241 y250 (wrap64 (x5_1 - 1)) l0_0) = some r := by first | (rw [hy250]; with_reducible exact H) | (have H2_ := (Option.bind_some _ _).symm.trans H; rw [hy250]; with_reducible exact H2_) | (have H2_ := (Option.bind_some _ _).symm.trans H; with_reducible exact H2_) | with_reducible exact H | (rw [hy250]; exact H) | exact H
               have Ny250 := aM_ hy250
               clear hy250
               have H' := aM_ H
               clear H
               have p248 : 0 ≤ (x6_2 : Int) := of_decide_eq_true (by (with_reducible assumption))
               have q248 : x6_2 < (x4_2.length : Int) := of_decide_eq_true (by (with_reducible assumption))
               obtain ⟨ad248, e248, hx248_0⟩ := Kd.at_int (kR_ HO_4.out).2.2 x6_2 p248 q248
               obtain rfl : (⟨go15, 0, none⟩ : Addr) = ad248 := (by injection e248)
               (simp only [add_plain] at hx248_0)
               (try simp only [Int.toNat_natCast] at hx248_0)
               replace p248 := eq_true p248
               replace q248 := eq_true q248
               have hcz27_0 : wr.cell? ⟨gb240, 0, none⟩ = some (.slice A0_0 l0_0.length c0_0) := (bC_ BK240.out 0).trans rfl
               have hfz27_0 := bF_ BK240.out 0
               obtain ⟨Ao28, co28, eo28⟩ := Kd.S_slice HO_3.out
               subst eo28
               go_wp2_with (first | (go_at_call 36; (with_reducible refine (spec_l7Alike.calls k2 _ _ l0_0 _ _ t241 _ _ x4_2 x5_1 x6_2 true _ ?side1 ?side2 ?side3 ?side4 ?side5 ?side6 A22.out).mono ?_); (case side1 => repeat (first | exact (k4_ HR0_0.out HB.out) | (with_reducible refine Kd.C_alloc ?_ _) | (with_reducible refine Kd.C_drewN ?_ _) | (with_reducible refine Kd.C_drew ?_))); (case side2 => exact HC0_0.out); (case side3 => repeat (first | exact (Kd.S_reads' HO_3.out).2.2 | (with_reducible refine Kd.C_alloc ?_ _) | (with_reducible refine Kd.C_drewN ?_ _) | (with_reducible refine Kd.C_drew ?_))); (case side4 => exact (Kd.S_reads' HO_3.out).2.1); (case side5 => repeat (first | exact (kR_ HO_4.out).2.2 | (with_reducible refine Kd.C_alloc ?_ _) | (with_reducible refine Kd.C_drewN ?_ _) | (with_reducible refine Kd.C_drew ?_))); (case side6 => exact (kR_ HO_4.out).2.1); rintro e w29 ⟨rfl, hb⟩; replace HO_3 := aM_ (Kd.S_below (by (with_reducible repeat (first | apply Kd.S_alloc | apply Kd.S_drewN | apply Kd.S_drew)); exact HO_3.out) hb); replace HO_4 := aM_ (kB_ HO_4.out hb); replace BK240 := aM_ (bB_ BK240.out hb); replace HB := aM_ (bT_ HB.out hb); (try clear hb); have p26 : 0 ≤ (x5_1 : Int) := of_decide_eq_true (by (with_reducible assumption)); have q26 : (x5_1 : Int) < ((x4_2.length : Int) : Int) := of_decide_eq_true (by (with_reducible assumption)); obtain ⟨hx26_0, hf26_0⟩ := kC_ 0 HO_4.out (x5_1 : Int) p26 q26; replace p26 := eq_true p26; replace q26 := eq_true q26; obtain ⟨hy30_, hz30_⟩ := kC_ 0 HO_4.out (x5_1 : Int) (of_decide_eq_true (by (with_reducible assumption))) (of_decide_eq_true (by (with_reducible assumption))); have HP30 := Kd.R_putg HO_4.out (x5_1 : Int) x6_2) | ((with_reducible refine gate_store (t := 3) (p := 49) rfl ?_); refine store_event (t := 3) (p := 49) (v := ?vo_w31) (w1 := (w29.setCell ⟨go15, (x5_1 : Int).toNat, none⟩ (.int .i64 x6_2))) ?hg ?ho ?hn ?hr ?_; (case ho => rfl); (case hg => rfl); (case hn => rfl); (case hr => (go_simp; done)); intro w31 hw; have hg : w29.grownBy w31 (some go15) := (by rw [hw]; exact HP30.2); have hp_ : Kd.R (Kd.int .i64) 3 w31 w.heap.size (fun _ => True) (.slice (some ⟨go15, 0, none⟩) x4_2.length co11) y250 := (by rw [hw, Ny250.out]; exact HP30.1); clear HP30; replace HO_3 := aM_ (Kd.S_after (v := (.slice (some ⟨go15, 0, none⟩) x4_2.length co11)) (v1 := (.slice (some ⟨go15, 0, none⟩) x4_2.length co11)) (ok := (fun _ => True)) (by (with_reducible repeat (first | apply Kd.S_alloc | apply Kd.S_drewN | apply Kd.S_drew)); exact Kd.S_mono HO_3.out (fun _ hk => ⟨trivial, hk⟩)) hg (.inl rfl)); replace BK240 := aM_ (blk_grown (g := gb240) (o := .cells #[.slice A0_0 l0_0.length c0_0] 30 (0, 0)) BK240.out hg (k6_ HO_4.out BK240.out (by decide))); replace HO_4 := aM_ (hp_); replace HB := aM_ ((by rw [hw]; exact bS_ (HB.out) GB15.out : Below w.heap.size w w31)); clear hg hw hp_))
               (try simp only [← hl4_1, ← hl4_2])
               go_roundg k2
               case measure => have := HK1.out; have := HK2.out; omega
               case rel => exact ⟨(y250), (wrap64 (x5_1 - 1)), (by rfl), H', ⟨by have := HK1.out; have := HK2.out; omega⟩, ⟨by (try simp only [hl4_1]); (try simp only [hl4_2]); (with_reducible repeat (first | apply Kd.S_alloc | apply Kd.S_drewN | apply Kd.S_drew)); exact Kd.S_mono HO_3.out (fun _ hk => hk.2)⟩, ⟨by (try simp only [hl4_1]); (try simp only [hl4_2]); exact HO_4.out⟩, ⟨by (try simp only [hl4_1]); (try simp only [hl4_2]); exact BK240.out⟩, ⟨HB.out⟩⟩
              ·
               rw [if_neg c25] at H
               exact absurd H (by simp)
             ·
              rw [if_neg c24] at H
              exact absurd H (by simp)
            ·
             replace c23 := Bool.eq_false_iff.mpr c23
             subst c23
             have H1 : (spec_l7Ends.l1 k2 t241 x4_2 x5_1 (wrap64 (x6_2 - 1)) l0_0) = some r := by rw [if_neg (show ¬ (false = true) by decide)] at H; exact H
             clear H
             have H := H1
             clear H1
             have H' := aM_ H
             clear H
             have p248 : 0 ≤ (x6_2 : Int) := of_decide_eq_true (by (with_reducible assumption))
             have q248 : x6_2 < (x4_2.length : Int) := of_decide_eq_true (by (with_reducible assumption))
             obtain ⟨ad248, e248, hx248_0⟩ := Kd.at_int (kR_ HO_4.out).2.2 x6_2 p248 q248
             obtain rfl : (⟨go15, 0, none⟩ : Addr) = ad248 := (by injection e248)
             (simp only [add_plain] at hx248_0)
             (try simp only [Int.toNat_natCast] at hx248_0)
             replace p248 := eq_true p248
             replace q248 := eq_true q248
             have hcz32_0 : wr.cell? ⟨gb240, 0, none⟩ = some (.slice A0_0 l0_0.length c0_0) := (bC_ BK240.out 0).trans rfl
             have hfz32_0 := bF_ BK240.out 0
             obtain ⟨Ao33, co33, eo33⟩ := Kd.S_slice HO_3.out
             subst eo33
             go_wp2_with (first | (go_at_call 36; (with_reducible refine (spec_l7Alike.calls k2 _ _ l0_0 _ _ t241 _ _ x4_2 x5_1 x6_2 false _ ?side1 ?side2 ?side3 ?side4 ?side5 ?side6 A22.out).mono ?_); (case side1 => repeat (first | exact (k4_ HR0_0.out HB.out) | (with_reducible refine Kd.C_alloc ?_ _) | (with_reducible refine Kd.C_drewN ?_ _) | (with_reducible refine Kd.C_drew ?_))); (case side2 => exact HC0_0.out); (case side3 => repeat (first | exact (Kd.S_reads' HO_3.out).2.2 | (with_reducible refine Kd.C_alloc ?_ _) | (with_reducible refine Kd.C_drewN ?_ _) | (with_reducible refine Kd.C_drew ?_))); (case side4 => exact (Kd.S_reads' HO_3.out).2.1); (case side5 => repeat (first | exact (kR_ HO_4.out).2.2 | (with_reducible refine Kd.C_alloc ?_ _) | (with_reducible refine Kd.C_drewN ?_ _) | (with_reducible refine Kd.C_drew ?_))); (case side6 => exact (kR_ HO_4.out).2.1); rintro e w34 ⟨rfl, hb⟩; replace HO_3 := aM_ (Kd.S_below (by (with_reducible repeat (first | apply Kd.S_alloc | apply Kd.S_drewN | apply Kd.S_drew)); exact HO_3.out) hb); replace HO_4 := aM_ (kB_ HO_4.out hb); replace BK240 := aM_ (bB_ BK240.out hb); replace HB := aM_ (bT_ HB.out hb); (try clear hb)))
             (try simp only [← hl4_2])
             go_roundg k2
             case measure => have := HK1.out; have := HK2.out; omega
             case rel => exact ⟨(x4_2), (wrap64 (x6_2 - 1)), (by rfl), H', ⟨by have := HK1.out; have := HK2.out; omega⟩, ⟨by (try simp only [hl4_1]); (try simp only [hl4_2]); (with_reducible repeat (first | apply Kd.S_alloc | apply Kd.S_drewN | apply Kd.S_drew)); exact HO_3.out⟩, ⟨by (try simp only [hl4_1]); (try simp only [hl4_2]); exact HO_4.out⟩, ⟨by (try simp only [hl4_1]); (try simp only [hl4_2]); exact BK240.out⟩, ⟨HB.out⟩⟩
           ·
            rw [if_neg c21] at H
            have c21b0 : ((rd x4_2 x6_2) == x6_2) = false := beq_eq_false_iff_ne.mpr c21
            have c21b1 : ((rd x4_2 x6_2) != x6_2) = true := bne_iff_ne.mpr c21
            have H' := aM_ H
            clear H
            have p248 : 0 ≤ (x6_2 : Int) := of_decide_eq_true (by (with_reducible assumption))
            have q248 : x6_2 < (x4_2.length : Int) := of_decide_eq_true (by (with_reducible assumption))
            obtain ⟨ad248, e248, hx248_0⟩ := Kd.at_int (kR_ HO_4.out).2.2 x6_2 p248 q248
            obtain rfl : (⟨go15, 0, none⟩ : Addr) = ad248 := (by injection e248)
            (simp only [add_plain] at hx248_0)
            (try simp only [Int.toNat_natCast] at hx248_0)
            replace p248 := eq_true p248
            replace q248 := eq_true q248
            go_wp2
            (try simp only [← hl4_2])
            go_roundg k2
            case measure => have := HK1.out; have := HK2.out; omega
            case rel => exact ⟨(x4_2), (wrap64 (x6_2 - 1)), (by rfl), H', ⟨by have := HK1.out; have := HK2.out; omega⟩, ⟨by (try simp only [hl4_1]); (try simp only [hl4_2]); (with_reducible repeat (first | apply Kd.S_alloc | apply Kd.S_drewN | apply Kd.S_drew)); exact HO_3.out⟩, ⟨by (try simp only [hl4_1]); (try simp only [hl4_2]); exact HO_4.out⟩, ⟨by (try simp only [hl4_1]); (try simp only [hl4_2]); exact BK240.out⟩, ⟨HB.out⟩⟩
          ·
           rw [if_neg c20] at H
           exact absurd H (by simp)
         ·
          rw [if_neg c19] at H
          exact absurd H (by simp)
        ·
         rw [if_neg c18] at H
         have c18b0 := decide_eq_false c18
         clear c18
         have H' := aM_ H
         clear H
         go_wp2
         (try simp only [← hl4_1, ← hl4_2])
         go_roundg k2
         case measure => have := HK1.out; have := HK2.out; omega
         case rel => exact ⟨(x4_2), (wrap64 (x5_1 - 1)), (by rfl), H', ⟨by have := HK1.out; have := HK2.out; omega⟩, ⟨by (try simp only [hl4_1]); (try simp only [hl4_2]); (with_reducible repeat (first | apply Kd.S_alloc | apply Kd.S_drewN | apply Kd.S_drew)); exact HO_3.out⟩, ⟨by (try simp only [hl4_1]); (try simp only [hl4_2]); exact HO_4.out⟩, ⟨by (try simp only [hl4_1]); (try simp only [hl4_2]); exact BK240.out⟩, ⟨HB.out⟩⟩
     ·
      rw [if_neg c14] at H
      exact absurd H (by simp)
    ·
     rw [if_neg c13] at H
     exact absurd H (by simp)
   ·
    rw [if_neg c12] at H
    have c12b0 := decide_eq_false c12
    clear c12
    obtain rfl := Option.some.inj H
    go_wp2
    go_ret
    exact ⟨_, by rfl, by exact HO_4.out, by exact HB.out⟩
end Go.Proofs.Ytnnkedeohfbkeaa.P
