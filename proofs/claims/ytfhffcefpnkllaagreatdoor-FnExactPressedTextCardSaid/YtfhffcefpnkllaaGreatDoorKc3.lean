/-
  Part 4 of what several laws reach in common: functions of the program, each with its contract, and plain lemmas.
  Conditions: those of the given statement, no others.
-/
import Derived.Test.YtfhffcefpnkllaaGreatDoorKcW0
import Derived.WalkKit
import Derived.ProofKit
import Derived.OpenShut
import Derived.Deep.Slices
import Derived.Deep.Fields
import Derived.ChangeSame
import Derived.Lib.SmallJoins
import Derived.Sort.Walk0
import Derived.Lib.SlicesCompact
import Derived.Test.YtfhffcefpnkllaaGreatDoorKc0
import Derived.Test.YtfhffcefpnkllaaGreatDoorKc2
import Derived.Test.YtfhffcefpnkllaaGreatDoorKc1
set_option linter.unusedVariables false
set_option linter.unusedSimpArgs false
set_option maxHeartbeats 8000000
set_option maxRecDepth 100000
namespace Go.Proofs.YtfhffcefpnkllaaGreatDoor.P
open Go.RowKit Go.Proofs.YtfhffcefpnkllaaGreatDoorW.PrintWords Go.Proofs.YtfhffcefpnkllaaGreatDoorW.PrintLast Go.Proofs.YtfhffcefpnkllaaGreatDoorW.PrintMore
attribute [local go_sem] max2_int min2_int max_two min_two max_three min_three max_four min_four
namespace OA
open Go.ChangeShapes Go.WideShapes Go.Deep Go.ChangeAt Go.Joins
section
variable {H : Type} {enc : TypeId × Value → H} {P : Program} {w : World} {base : Nat} {spare : Nat → Bool} {held : Bool}
theorem fields {t e : TypeId} {fs : Array Field} {fuel : Nat} {cs : List Value} {x : DataW H × List MemPlace} (ht : P.underlying t = some (.slice e)) (he : P.underlying e = some (.struct fs))
  (hone : oneCellFields P fs = true) (hC : P.cellsOf e = fs.size) (h : DataW.trod enc P w base spare held fuel t cs = some x) :
  (cs = [.slice none 0 0]) ∨
  ∃ (a : Addr) (len cap : Nat), cs = [.slice (some a) len cap] ∧ len ≤ cap ∧ cap ≤ maxLen ∧
   ∀ i, i < len → ∃ n : Nat, ∀ (j : Nat) (f : Field), fs[j]? = some f → ∃ (v : Value) (y : DataW H × List MemPlace), w.cell? (a.add (i * fs.size + j)) = some v ∧ DataW.trod enc P w base spare held n f.type [v] = some y := by
 rcases open_slice ht h with h0 | ⟨a, len, cap, m, n, D, Pl, hcs, hb, hl, hm, hmm, hx, hi⟩
 ·
  exact .inl h0.1
 ·
  refine .inr ⟨a, len, cap, hcs, hl, hm, fun i hil => ?_⟩
  have him : i < m := by rw [hmm]; split <;> omega
  obtain ⟨cs', hc, ht'⟩ := hi i him
  rw [hC] at hc
  obtain ⟨ys, n', hn', hy, hlen, hyl, hf⟩ := DataW.trod_struct he ht'
  obtain ⟨_, hcl, hat⟩ := World.cells?_some hc
  refine ⟨n', fun j f hj => ?_⟩
  obtain ⟨ho, hk⟩ := hone_of hone j f hj
  have hjl : j < fs.size := (Array.getElem?_eq_some_iff.1 hj).1
  have hcell := hat j hjl
  have hv : cs'[j]? = some (cs'[j]'(by omega)) := List.getElem?_eq_getElem (by omega)
  have h1 := hf j f hj
  rw [ho, hk] at h1
  have hone' : (cs'.drop j).take 1 = [cs'[j]'(by omega)] := by
   rw [List.drop_eq_getElem_cons (by omega)]
   rfl
  rw [hone'] at h1
  have hys : ys[j]? = some (ys[j]'(by omega)) := List.getElem?_eq_getElem (by omega)
  refine ⟨_, _, ?_, h1.trans hys⟩
  rw [← Go.Deep.add_add, hcell, hv]
theorem array1 {α : Type} {cs : Array α} (h : cs.size = 1) : ∃ c0, cs = #[c0] := by
 obtain ⟨l⟩ := cs
 match l, h with
 | [c0], _ => exact ⟨c0, rfl⟩
theorem agg1 {r : Reach} {b0 : Nat} {t : TypeId} {f0 : Field} {v : Value} {d : DataW H} {p : List MemPlace} (hs : P.underlying t = some (.struct #[f0])) (hone : oneCellFields P #[f0] = true) (hC : P.cellsOf t = 1)
  (hv : Value.okWide P w r b0 t v) (h : DataW.Trod enc P w base spare held t v d p) :
  ∃ (v0 : Value) (y0 : DataW H × List MemPlace) (n : Nat), v = .agg #[v0] ∧ DataW.trod enc P w base spare held n f0.type [v0] = some y0 := by
 obtain ⟨cs, rfl, hsz⟩ := okWide_struct hs hv
 obtain ⟨c0, rfl⟩ := array1 (hsz.trans hC)
 obtain ⟨fuel, hf⟩ := h
 obtain ⟨xs, n, _, hx, _, hlen, hg⟩ := DataW.trod_struct hs hf
 obtain ⟨o0, k0⟩ := hone_of hone 0 f0 rfl
 have h0 := hg 0 f0 rfl
 have hl : 0 < xs.length := by rw [hlen]; exact Nat.zero_lt_one
 rw [List.getElem?_eq_getElem hl] at h0
 exact ⟨c0, _, n, rfl, by simpa [Value.cells, o0, k0] using h0⟩
end
end OA
end Go.Proofs.YtfhffcefpnkllaaGreatDoor.P
namespace Go.Proofs.YtfhffcefpnkllaaGreatDoor.P
open Go.RowKit Go.Proofs.YtfhffcefpnkllaaGreatDoorW.PrintWords Go.Proofs.YtfhffcefpnkllaaGreatDoorW.PrintLast Go.Proofs.YtfhffcefpnkllaaGreatDoorW.PrintMore
attribute [local go_sem] max2_int min2_int max_two min_two max_three min_three max_four min_four
namespace OPr
open Go.ChangeShapes Go.WideShapes Go.Deep Go.ChangeAt Go.Joins OA
theorem pressed {H : Type} {enc : TypeId × Value → H} {w : World} {base : Nat} {spare : Nat → Bool} {held : Bool} {r : Reach} {b0 : Nat} {v : Value} {d : DataW H} {p : List MemPlace}
  (hv : Value.okWide Tryz.prog w r b0 24 v) (h : DataW.Trod enc Tryz.prog w base spare held 24 v d p) :
  ∃ (A : Option Addr) (cap : Nat) (l : List S71), v = .agg #[.slice A l.length cap] ∧ l.length ≤ cap ∧ Kd.C k71 w A l.length l ∧ (∀ x ∈ l, x.f0.size ≤ 9223372036854775807) := by
 obtain ⟨v0, y0, n, rfl, h0⟩ := agg1 Tryz.underlying24 (by kernel_rfl) (by kernel_rfl) hv h
 rcases fields Tryz.underlying22 Tryz.underlying71 (by kernel_rfl) (by kernel_rfl) h0 with e | ⟨a, len, cap, e, hl, hm, hi⟩
 ·
  obtain rfl : v0 = .slice none 0 0 := by simpa using e
  exact ⟨none, 0, [], rfl, Nat.le_refl _, ⟨rfl, by simp, fun h => absurd h (Nat.lt_irrefl _)⟩, fun x hx => by simp at hx⟩
 ·
  obtain rfl : v0 = .slice (some a) len cap := by simpa using e
  have hex : ∀ i, i < len → ∃ x : S71, w.cell? (a.add (i * 3 + 0)) = some (.string x.f0) ∧ w.cell? (a.add (i * 3 + 1)) = some (.int .i64 x.f1) ∧ w.cell? (a.add (i * 3 + 2)) = some (.bool x.f2) ∧ x.f0.size ≤ maxLen := by
   intro i hil
   obtain ⟨n, hf⟩ := hi i hil
   obtain ⟨u0, y0, c0, t0⟩ := hf 0 _ rfl
   obtain ⟨u1, y1, c1, t1⟩ := hf 1 _ rfl
   obtain ⟨u2, y2, c2, t2⟩ := hf 2 _ rfl
   obtain ⟨n0, e0, _, z0⟩ := DataW.trod_string Tryz.underlying9 t0
   obtain ⟨n1, e1, _, _⟩ := DataW.trod_int Tryz.underlying3 t1
   obtain ⟨b2, e2, _⟩ := DataW.trod_bool Tryz.underlying4 t2
   simp only [List.cons.injEq, and_true] at e0 e1 e2
   subst e0 e1 e2
   exact ⟨⟨n0, n1, b2⟩, c0, c1, c2, z0⟩
  obtain ⟨g, hg⟩ : ∃ g : Nat → S71, ∀ i, i < len → w.cell? (a.add (i * 3 + 0)) = some (.string (g i).f0) ∧ w.cell? (a.add (i * 3 + 1)) = some (.int .i64 (g i).f1) ∧ w.cell? (a.add (i * 3 + 2)) = some (.bool (g i).f2) ∧ (g i).f0.size ≤ maxLen :=
   ⟨fun i => if h : i < len then Classical.choose (hex i h) else z71, fun i h => by simp only [dif_pos h]; exact Classical.choose_spec (hex i h)⟩
  refine ⟨some a, cap, (List.range len).map g, by simp, by simpa using hl, ⟨by simp, ?_, fun _ => ⟨a, rfl, fun j p hj => ?_⟩⟩, fun x hx => ?_⟩
  ·
   have : (maxLen : Nat) ≤ 9223372036854775807 := by decide
   simp; omega
  ·
   obtain ⟨hjl, rfl⟩ := List.getElem?_eq_some_iff.1 hj
   have hjl' : j < len := by simpa using hjl
   obtain ⟨c0, c1, c2, _⟩ := hg j hjl'
   rw [List.getElem_map, List.getElem_range]
   refine ⟨_, rfl, k71_mk w (g j), fun i u hu => ?_⟩
   match i, hu with
   | 0, hu => obtain rfl := Option.some.inj hu; exact c0
   | 1, hu => obtain rfl := Option.some.inj hu; exact c1
   | 2, hu => obtain rfl := Option.some.inj hu; exact c2
  ·
   obtain ⟨i, hi, rfl⟩ := List.mem_map.1 hx
   have := (hg i (by simpa using hi)).2.2.2
   have h2 : (maxLen : Nat) ≤ 9223372036854775807 := by decide
   omega
end OPr
end Go.Proofs.YtfhffcefpnkllaaGreatDoor.P
namespace Go.Proofs.YtfhffcefpnkllaaGreatDoor.M
open Go.RowKit Go.Proofs.YtfhffcefpnkllaaGreatDoorW.PrintWords
theorem wrap64_id {x : Int} (h0 : -9223372036854775808 ≤ x) (h1 : x ≤ 9223372036854775807) : wrap64 x = x := by unfold wrap64; omega
theorem wrap64_succ (n : Nat) (h : n < 4611686018427387904) : wrap64 ((n : Int) + 1) = ((n + 1 : Nat) : Int) := by rw [wrap64_id (by omega) (by omega)]; rfl
theorem rd_nat (xs : List Int) (n : Nat) : rd xs (n : Int) = xs.getD n 0 := by simp [rd]
theorem getD_lt {α : Type} (z : α) {xs : List α} {n : Nat} (h : n < xs.length) : xs.getD n z = xs[n] := by simp [List.getD_eq_getElem?_getD, h]
theorem drop_cons_getD {α : Type} (z : α) {xs : List α} {n : Nat} (h : n < xs.length) : xs.drop n = xs.getD n z :: xs.drop (n + 1) := by
 rw [getD_lt z h]; exact List.drop_eq_getElem_cons h
theorem take_succ_getD {α : Type} (z : α) {xs : List α} {n : Nat} (h : n < xs.length) : xs.take (n + 1) = xs.take n ++ [xs.getD n z] := by
 rw [getD_lt z h, List.take_succ_eq_append_getElem h]
theorem fill_set {α : Type} (z : α) (xs : List α) (n : Nat) (h : n < xs.length) (y : α) : (xs.take n ++ List.replicate (xs.length - n) y).set n (xs.getD n z) = xs.take (n + 1) ++ List.replicate (xs.length - (n + 1)) y := by
 have hl : (xs.take n).length = n := by simp; omega
 rw [List.set_append_right _ _ (by omega), hl, Nat.sub_self, show xs.length - n = (xs.length - (n + 1)) + 1 from by omega, List.replicate_succ, List.set_cons_zero, take_succ_getD z h, List.append_assoc]
 rfl
theorem ite_eqT {α : Type} {c : Prop} [Decidable c] {a b : α} (h : c) : (if c then a else b) = a := if_pos h
theorem ite_eqF {α : Type} {c : Prop} [Decidable c] {a b : α} (h : ¬ c) : (if c then a else b) = b := if_neg h
theorem Ev.bind' {α β : Type} {g : Nat → Option α} {f : Nat → α → Option β} {a : α} {r : β} (h : Ev g a) (k : Ev (fun n => f n a) r) : Ev (fun n => (g n).bind fun t => f n t) r := Ev.bind h k
theorem Ev.pure {α : Type} {r : α} : Ev (fun _ => some r) r := Ev.now r
theorem Ev.some_bind {α β : Type} {a : α} {f : Nat → α → Option β} {r : β} (k : Ev (fun n => f n a) r) : Ev (fun n => (some a).bind fun t => f n t) r := k
theorem Ev.ifT {α : Type} {c : Prop} [Decidable c] {f g : Nat → Option α} {r : α} (h : c) (k : Ev f r) : Ev (fun n => if c then f n else g n) r := by simpa only [if_pos h] using k
theorem Ev.ifF {α : Type} {c : Prop} [Decidable c] {f g : Nat → Option α} {r : α} (h : ¬ c) (k : Ev g r) : Ev (fun n => if c then f n else g n) r := by simpa only [if_neg h] using k
def B (l : List UInt8) : ByteArray := ⟨l.toArray⟩
theorem exB (a : ByteArray) : ∃ l, a = B l := ⟨a.data.toList, ByteArray.ext (by simp [B])⟩
@[simp] theorem data_B (l : List UInt8) : (B l).data.toList = l := by simp [B]
@[simp] theorem toList_B (l : List UInt8) : (B l).toList = l := by rw [Go.ByteArray.toList_eq]; simp
@[simp] theorem size_B (l : List UInt8) : (B l).size = l.length := by rw [← ByteArray.size_data, ← Array.length_toList, data_B]
theorem B_data (a : ByteArray) : B a.data.toList = a := ByteArray.ext (by simp [B])
theorem B_inj {l m : List UInt8} (h : B l = B m) : l = m := by rw [← data_B l, h, data_B]
theorem B_eq {l m : List UInt8} : B l = B m ↔ l = m := ⟨B_inj, fun h => by rw [h]⟩
theorem eq_B {a : ByteArray} {l : List UInt8} (h : a.data.toList = l) : a = B l := by rw [← h, B_data]
@[simp] theorem append_B (l m : List UInt8) : B l ++ B m = B (l ++ m) := eq_B (by simp)
@[simp] theorem extract_B (l : List UInt8) (a b : Nat) : (B l).extract a b = B ((l.drop a).take (b - a)) := eq_B (by simp)
@[simp] theorem nil_B : (⟨#[]⟩ : ByteArray) = B [] := rfl
theorem bt_B (l : List UInt8) (n : Nat) (h : n < l.length) : bt (B l) (n : Int) = ((l.getD n 0).toNat : Int) := by
 have h2 : ((n : Int).toNat) < (B l).size := by simpa using h
 rw [bt, dif_pos h2, getD_lt 0 h]
 simp [B, ByteArray.getElem_eq_getElem_data]
def letterB (c : UInt8) : Bool := decide (97 ≤ c.toNat ∧ c.toNat ≤ 122)
end Go.Proofs.YtfhffcefpnkllaaGreatDoor.M
namespace Go.Proofs.YtfhffcefpnkllaaGreatDoor.M
abbrev Txt := List UInt8
theorem txt_irrefl (a : Txt) : ¬ a < a := List.lt_irrefl a
theorem txt_trans {a b c : Txt} (h : a < b) (k : b < c) : a < c := List.lt_trans h k
theorem txt_asymm {a b : Txt} (h : a < b) : ¬ b < a := fun k => txt_irrefl a (txt_trans h k)
theorem txt_tri {a b : Txt} (h : ¬ a < b) (k : ¬ b < a) : a = b := List.le_antisymm (List.not_lt.1 k) (List.not_lt.1 h)
def putL : List Txt → Txt → List Txt
 | [], w => [w]
 | x :: r, w => if x < w then x :: putL r w else if x = w then x :: r else w :: x :: r
def foundL : List Txt → Txt → Bool
 | [], _ => false
 | x :: r, w => if x < w then foundL r w else decide (x = w)
theorem putL_found : ∀ (l : List Txt) (w : Txt), foundL l w = true → putL l w = l
 | [], _, h => by simp [foundL] at h
 | x :: r, w, h => by
  by_cases h1 : x < w
  ·
   simp only [foundL, if_pos h1] at h; simp only [putL, if_pos h1, putL_found r w h]
  ·
   simp only [foundL, if_neg h1, decide_eq_true_eq] at h; simp only [putL, if_neg h1, if_pos h]
def Asc (l : List Txt) : Prop := l.Pairwise (· < ·)
theorem mem_putL : ∀ (l : List Txt) (w y : Txt), y ∈ putL l w ↔ y = w ∨ y ∈ l
 | [], w, y => by simp [putL]
 | x :: r, w, y => by
  by_cases h1 : x < w
  ·
   simp only [putL, if_pos h1, List.mem_cons, mem_putL r w y]
   constructor
   ·
    rintro (h | h | h)
    ·
     exact .inr (.inl h)
    ·
     exact .inl h
    ·
     exact .inr (.inr h)
   ·
    rintro (h | h | h)
    ·
     exact .inr (.inl h)
    ·
     exact .inl h
    ·
     exact .inr (.inr h)
  ·
   by_cases h2 : x = w
   ·
    simp only [putL, if_neg h1, if_pos h2, List.mem_cons]
    constructor
    ·
     exact fun h => .inr h
    ·
     rintro (h | h)
     ·
      exact .inl (h.trans h2.symm)
     ·
      exact h
   ·
    simp [putL, h1, h2]
theorem asc_putL : ∀ (l : List Txt) (w : Txt), Asc l → Asc (putL l w)
 | [], w, _ => by simp [putL, Asc]
 | x :: r, w, h => by
  unfold Asc at h ⊢
  rw [List.pairwise_cons] at h
  by_cases h1 : x < w
  ·
   simp only [putL, if_pos h1, List.pairwise_cons]
   refine ⟨fun y hy => ?_, asc_putL r w h.2⟩
   rcases (mem_putL r w y).1 hy with rfl | hy
   ·
    exact h1
   ·
    exact h.1 y hy
  ·
   by_cases h2 : x = w
   ·
    simp only [putL, if_neg h1, if_pos h2]; exact List.pairwise_cons.2 h
   ·
    simp only [putL, if_neg h1, if_neg h2, List.pairwise_cons]
    have hw : w < x := by
     by_cases h3 : w < x
     ·
      exact h3
     ·
      exact absurd (txt_tri h1 h3) h2
    refine ⟨fun y hy => ?_, h⟩
    rcases List.mem_cons.1 hy with rfl | hy
    ·
     exact hw
    ·
     exact txt_trans hw (h.1 y hy)
theorem asc_ext : ∀ (l m : List Txt), Asc l → Asc m → (∀ y, y ∈ l ↔ y ∈ m) → l = m
 | [], [], _, _, _ => rfl
 | [], y :: m, _, _, h => absurd ((h y).2 (by simp)) (by simp)
 | x :: l, [], _, _, h => absurd ((h x).1 (by simp)) (by simp)
 | x :: l, y :: m, hl, hm, h => by
  unfold Asc at hl hm
  rw [List.pairwise_cons] at hl hm
  have hxy : x = y := by
   rcases List.mem_cons.1 ((h x).1 (by simp)) with e | hx
   ·
    exact e
   rcases List.mem_cons.1 ((h y).2 (by simp)) with e | hy
   ·
    exact e.symm
   exact absurd (hm.1 x hx) (txt_asymm (hl.1 y hy))
  subst hxy
  rw [asc_ext l m hl.2 hm.2 ?_]
  intro z
  have := h z
  simp only [List.mem_cons] at this
  constructor
  ·
   intro hz
   rcases this.1 (.inr hz) with e | hz'
   ·
    exact absurd (hl.1 z hz) (by rw [e]; exact txt_irrefl _)
   ·
    exact hz'
  ·
   intro hz
   rcases this.2 (.inr hz) with e | hz'
   ·
    exact absurd (hm.1 z hz) (by rw [e]; exact txt_irrefl _)
   ·
    exact hz'
def setL (l : List Txt) : List Txt := l.foldl putL []
theorem foldl_putL_mem : ∀ (l acc : List Txt) (y : Txt), y ∈ l.foldl putL acc ↔ y ∈ l ∨ y ∈ acc
 | [], acc, y => by simp
 | x :: l, acc, y => by
  rw [List.foldl_cons, foldl_putL_mem l, mem_putL]
  simp only [List.mem_cons]
  constructor
  ·
   rintro (h | h | h)
   ·
    exact .inl (.inr h)
   ·
    exact .inl (.inl h)
   ·
    exact .inr h
  ·
   rintro ((h | h) | h)
   ·
    exact .inr (.inl h)
   ·
    exact .inl h
   ·
    exact .inr (.inr h)
theorem foldl_putL_asc : ∀ (l acc : List Txt), Asc acc → Asc (l.foldl putL acc)
 | [], _, h => h
 | _ :: l, acc, h => foldl_putL_asc l _ (asc_putL acc _ h)
theorem mem_setL (l : List Txt) (y : Txt) : y ∈ setL l ↔ y ∈ l := by simp [setL, foldl_putL_mem]
theorem asc_setL (l : List Txt) : Asc (setL l) := foldl_putL_asc l [] List.Pairwise.nil
theorem setL_of_asc {l : List Txt} (h : Asc l) : setL l = l := asc_ext _ _ (asc_setL l) h (mem_setL l)
theorem putL_length_le : ∀ (l : List Txt) (w : Txt), (putL l w).length ≤ l.length + 1
 | [], w => by simp [putL]
 | x :: r, w => by
  have := putL_length_le r w
  by_cases h1 : x < w
  ·
   simp only [putL, if_pos h1, List.length_cons]; omega
  ·
   by_cases h2 : x = w
   ·
    simp only [putL, if_neg h1, if_pos h2, List.length_cons]; omega
   ·
    simp only [putL, if_neg h1, if_neg h2, List.length_cons]; omega
end Go.Proofs.YtfhffcefpnkllaaGreatDoor.M
namespace Go.Proofs.YtfhffcefpnkllaaGreatDoor.P
open Go.RowKit Go.Proofs.YtfhffcefpnkllaaGreatDoorW.PrintWords Go.Proofs.YtfhffcefpnkllaaGreatDoorW.PrintLast Go.Proofs.YtfhffcefpnkllaaGreatDoorW.PrintMore
open Go.Proofs.YtfhffcefpnkllaaGreatDoorW.PrintWords renaming blk_frozen → bF_, blk_cell → bC_, below_set → bS_, blk_below → bB_, below_step → bT_, pw_below_drewN → bN_, below_size → bZ_, below_drew1 → bD_, below_alloc → bA_, blk_far → bR_, gate_callee → gC_, gate_dst → gD_, box_event → bE_, blk_drew → b1_, blk_put → bP_, blk_drewN → b2_, blk_alloc → b3_, blk_lt → bL_, cell_far → cF_
open Go.Proofs.YtfhffcefpnkllaaGreatDoorW.PrintLast renaming any_of → aO_, i64_w → i6_, i32_w → i3_, take_ofW → tW_
open Go.Proofs.YtfhffcefpnkllaaGreatDoorW.PrintWords.Kd renaming R_below → kB_, R_mono → kM_, R_far → kF_, R_reads' → kR_, R_types → kT_, R_slice → kS_, R_celln → kC_, R_alloc → k1_, R_drewN → k2_, R_drew → k3_, C_below → k4_, R_lower → k5_, R_ne → k6_, own_blk → k7_
open Go.Proofs.YtfhffcefpnkllaaGreatDoorW.PrintWords.LeO renaming none → l0_, bind → l1_, ite → l2_, refl → l3_
open World renaming block_lt_of_cell? → wB_
open _root_.Option renaming bind_eq_some_iff → oB_
open _root_.ByteArray renaming empty → eB_
open List renaming setIfInBounds_toArray → sA_, set_cons_zero → sB_, set_cons_succ → sC_, map_toArray → sD_, map_cons → sE_, map_nil → sF_, length_drop → sG_, length_take → sH_
open Bool renaming true → ty, false → fy
open Aside0 renaming mk → aM_
attribute [local go_sem] max2_int min2_int max_two min_two max_three min_three max_four min_four
def spec_l2PutA.l0 : Nat → List ByteArray → ByteArray → Int → Option (List ByteArray)
 | 0, _, _, _ => none
 | k + 1, x0, x1, x5 => if x5 < (x0.length : Int) then (if 0 ≤ x5 then ((spec_l2Before.f k (rdOf eB_ x0 x5) x1).bind fun t171 => (if t171 = true then (spec_l2PutA.l0 k x0 x1 (wrap64 (x5 + 1))) else (if (rdOf eB_ x0 x5).toList = x1.toList then (none) else (if x5 ≤ (x0.length : Int) then ((spec_l2Own.f (x0.take (x5 : Int).toNat)).bind fun t174 => ((some (([x1] : List ByteArray) : List ByteArray)).bind fun y177 => (if t174.length + y177.length < 8796093022208 then ((some (t174 ++ y177 : List ByteArray)).bind fun y180 => (if y180.length + (x0.drop (x5 : Int).toNat).length < 8796093022208 then (some (y180 ++ (x0.drop (x5 : Int).toNat))) else (none))) else (none)))) else (none))))) else (none)) else (if 0 ≤ x5 then (if x5 ≤ (x0.length : Int) then ((spec_l2Own.f (x0.take (x5 : Int).toNat)).bind fun t188 => ((some (([x1] : List ByteArray) : List ByteArray)).bind fun y191 => (if t188.length + y191.length < 8796093022208 then ((some (t188 ++ y191 : List ByteArray)).bind fun y194 => (if y194.length + (x0.drop (x5 : Int).toNat).length < 8796093022208 then (some (y194 ++ (x0.drop (x5 : Int).toNat))) else (none))) else (none)))) else (none)) else (none))
def spec_l2PutA.f (k : Nat) (l0 : List ByteArray) (a1 : ByteArray) : Option (List ByteArray) := spec_l2PutA.l0 k l0 a1 0
theorem spec_l2PutA.mono_l : ∀ k, (∀ y0 y1 y2, LeO (spec_l2PutA.l0 k y0 y1 y2) (spec_l2PutA.l0 (k + 1) y0 y1 y2))
 | 0 => fun _ _ _ r h => by simp [spec_l2PutA.l0] at h
 | k + 1 => by
  have ih0 := spec_l2PutA.mono_l k
  ·
   intro y0 y1 y2
   unfold spec_l2PutA.l0
   repeat' first
   | (with_reducible exact ih0 _ _ _)
   | (with_reducible exact spec_l2Before.mono _ _ _)
   | (with_reducible exact l3_ _)
   | (with_reducible exact l0_ _)
   | (with_reducible refine l2_ ?_ ?_)
   | (with_reducible refine l1_ ?_ (fun _ => ?_))
   | exact ih0 _ _ _
   | exact spec_l2Before.mono _ _ _
   | exact l0_ _
   | refine l2_ ?_ ?_
   | refine l1_ ?_ (fun _ => ?_)
theorem spec_l2PutA.mono : ∀ a0 a1 k, LeO (spec_l2PutA.f k a0 a1) (spec_l2PutA.f (k + 1) a0 a1) := by
 intro a0 a1 k
 have ih0 := spec_l2PutA.mono_l k
 unfold spec_l2PutA.f
 repeat' first
   | (with_reducible exact ih0 _ _ _)
   | (with_reducible exact spec_l2Before.mono _ _ _)
   | (with_reducible exact l3_ _)
   | (with_reducible exact l0_ _)
   | (with_reducible refine l2_ ?_ ?_)
   | (with_reducible refine l1_ ?_ (fun _ => ?_))
   | exact ih0 _ _ _
   | exact spec_l2Before.mono _ _ _
   | exact l0_ _
   | refine l2_ ?_ ?_
   | refine l1_ ?_ (fun _ => ?_)
def spec_l2PutA.T6 : Bool × List (List Nat × List Nat) := (true, [([], []), ([], []), ([0, 1], [0, 1]), ([2], [2]), ([], []), ([4], [4]), ([3, 5, 3], [3, 5]), ([], []), ([], []), ([7, 8], [7, 8]), ([6, 9, 6], [6, 9]), ([10, 10, 0, 1, 2, 3, 4, 5, 6, 7, 8, 9, 10], [10])])
def spec_l2PutA.B6 : List Nat := [0, 0, 3, 7, 0, 16, 63, 0, 0, 384, 1023, 2047]
theorem spec_l2PutA.tab6 : rtab .any (opsOf Tryz.f73 6) = spec_l2PutA.T6 := by kernel_rfl
theorem spec_l2PutA.bits6 : waitsOk spec_l2PutA.T6.2 spec_l2PutA.B6 = true := by kernel_rfl
theorem spec_l2PutA.calls (k : Nat) (A0 : Option Addr) (c0 : Nat) (l0 : List ByteArray) (a1 : ByteArray) (r : List ByteArray) (w : World) (hr0 : Kd.C Kd.string w A0 l0.length l0) (hc0 : l0.length ≤ c0) (h : spec_l2PutA.f k l0 a1 = some r) :
  Calls Tryz.prog 73 #[.slice A0 l0.length c0, .string a1] w fun e w' => ∃ v0_ : Value, e = .returned (v0_) ∧ Kd.R Kd.string 9 w' w.heap.size (fun _ => True) v0_ r ∧ Below w.heap.size w w' := by
 have HR0 := aM_ hr0
 have HC0 := aM_ hc0
 clear hr0 hc0
 have HB := aM_ (Below.refl w.heap.size w)
 have H : (spec_l2PutA.l0 k l0 a1 0) = some r := h
 clear h
 have H' := aM_ H
 clear H
 go_enter Tryz.func73, Tryz.ntmps73
 go_wp2
 go_loopg [5] k (fun kq v5 w' => ∃ (x5_1 : Int), v5 = .int .i64 x5_1 ∧ Aside0 (spec_l2PutA.l0 kq l0 a1 x5_1 = some r) ∧ Aside0 (kq ≤ k) ∧ Aside0 (Below w.heap.size w w'))
 case atStart => exact ⟨(0), (by rfl), H', ⟨Nat.le_refl _⟩, ⟨HB.out⟩⟩
 case round =>
  clear H'
  try clear p2
  obtain ⟨x5_1, rfl, HA, HK1, HB⟩ := hrel
  cases gk with
  | zero => exact absurd HA.out (by simp [spec_l2PutA.l0])
  | succ k1 =>
   have H := HA.out
   clear HA
   simp only [spec_l2PutA.l0] at H
   by_cases c3 : x5_1 < (l0.length : Int)
   ·
    rw [if_pos c3] at H
    have c3b0 := decide_eq_true c3
    clear c3
    by_cases c4 : 0 ≤ x5_1
    ·
     rw [if_pos c4] at H
     have c4b0 := decide_eq_true c4
     clear c4
     replace H := oB_.mp H
     obtain ⟨t171, A50, H⟩ := H
     try dsimp only at H
     have A5 := aM_ A50
     clear A50
     by_cases c6 : t171 = true
     ·
      subst c6
      rw [if_pos rfl] at H
      have H' := aM_ H
      clear H
      have p170 : 0 ≤ (x5_1 : Int) := of_decide_eq_true (by (with_reducible assumption))
      have q170 : x5_1 < (l0.length : Int) := of_decide_eq_true (by (with_reducible assumption))
      obtain ⟨ad170, e170, hx170_0⟩ := Kd.at_string HR0.out x5_1 p170 q170
      cases e170
      replace hx170_0 := (HB.out.cell (wB_ w _ hx170_0)).trans hx170_0
      replace p170 := eq_true p170
      replace q170 := eq_true q170
      go_wp2_with (first | (go_at_call 90; (with_reducible refine (spec_l2Before.calls k1 (rdOf eB_ l0 x5_1) a1 true _ A5.out).mono ?_); rintro e w' ⟨rfl, ⟨nd, rfl⟩⟩))
      go_roundg k1
      case measure => have := HK1.out; omega
      case rel => exact ⟨(wrap64 (x5_1 + 1)), (by rfl), H', ⟨by have := HK1.out; omega⟩, ⟨by repeat (first | (with_reducible first | exact HB.out | apply bA_ | apply bN_ | apply bD_) | exact HB.out)⟩⟩
     ·
      replace c6 := Bool.eq_false_iff.mpr c6
      subst c6
      have H1 : (if (rdOf eB_ l0 x5_1).toList = a1.toList then (none) else (if x5_1 ≤ (l0.length : Int) then ((spec_l2Own.f (l0.take (x5_1 : Int).toNat)).bind fun t174 => ((some (([a1] : List ByteArray) : List ByteArray)).bind fun y177 => (if t174.length + y177.length < 8796093022208 then ((some (t174 ++ y177 : List ByteArray)).bind fun y180 => (if y180.length + (l0.drop (x5_1 : Int).toNat).length < 8796093022208 then (some (y180 ++ (l0.drop (x5_1 : Int).toNat))) else (none))) else (none)))) else (none))) = some r := by rw [if_neg (show ¬ (false = true) by decide)] at H; exact H
      clear H
      have H := H1
      clear H1
      by_cases c7 : (rdOf eB_ l0 x5_1).toList = a1.toList
      ·
       rw [if_pos c7] at H
       exact absurd H (by simp)
      ·
       rw [if_neg c7] at H
       have c7b0 : ((rdOf eB_ l0 x5_1).toList == a1.toList) = false := beq_eq_false_iff_ne.mpr c7
       have c7b1 : ((rdOf eB_ l0 x5_1).toList != a1.toList) = true := bne_iff_ne.mpr c7
       have c8b0 := eq_true (of_decide_eq_true (by (with_reducible assumption)) : 0 ≤ x5_1)
       by_cases c9 : x5_1 ≤ (l0.length : Int)
       ·
        rw [if_pos c9] at H
        have c9b0 := eq_true c9
        have c9b1 := decide_eq_true c9
        clear c9
        replace H := oB_.mp H
        obtain ⟨t174, A100, H⟩ := H
        try dsimp only at H
        have A10 := aM_ A100
        clear A100
        obtain ⟨y177, hy177⟩ : ∃ y_ : List ByteArray, y_ = (([a1] : List ByteArray)) := ⟨_, rfl⟩
        replace H : (if t174.length + y177.length < 8796093022208 then ((some (t174 ++ y177 : List ByteArray)).bind fun y180 => (if y180.length + (l0.drop (x5_1 : Int).toNat).length < 8796093022208 then (some (y180 ++ (l0.drop (x5_1 : Int).toNat))) else (none))) else (none)) = some r := by first | (rw [hy177]; with_reducible exact H) | (have H2_ := (Option.bind_some _ _).symm.trans H; rw [hy177]; with_reducible exact H2_) | (have H2_ := (Option.bind_some _ _).symm.trans H; with_reducible exact H2_) | with_reducible exact H | (rw [hy177]; exact H) | exact H
        have Ny177 := aM_ hy177
        clear hy177
        by_cases c11 : t174.length + y177.length < 8796093022208
        ·
         rw [if_pos c11] at H
         have LMc11 := aM_ c11
         clear c11
         obtain ⟨y180, hy180⟩ : ∃ y_ : List ByteArray, y_ = (t174 ++ y177) := ⟨_, rfl⟩
         replace H : (if y180.length + (l0.drop (x5_1 : Int).toNat).length < 8796093022208 then (some (y180 ++ (l0.drop (x5_1 : Int).toNat))) else (none)) = some r := by first | (rw [hy180]; with_reducible exact H) | (have H2_ := (Option.bind_some _ _).symm.trans H; rw [hy180]; with_reducible exact H2_) | (have H2_ := (Option.bind_some _ _).symm.trans H; with_reducible exact H2_) | with_reducible exact H | (rw [hy180]; exact H) | exact H
         have Ny180 := aM_ hy180
         clear hy180
         have c12b0 := eq_true (of_decide_eq_true (by (with_reducible assumption)) : 0 ≤ x5_1)
         have c13b0 := eq_true (of_decide_eq_true (by (with_reducible assumption)) : x5_1 ≤ (l0.length : Int))
         by_cases c14 : y180.length + (l0.drop (x5_1 : Int).toNat).length < 8796093022208
         ·
          rw [if_pos c14] at H
          have LMc14 := aM_ c14
          clear c14
          obtain ⟨y184, hy184⟩ : ∃ y_ : List ByteArray, y_ = (y180 ++ (l0.drop (x5_1 : Int).toNat)) := ⟨_, rfl⟩
          replace H : (some y184) = some r := by first | (rw [hy184]; with_reducible exact H) | (have H2_ := (Option.bind_some _ _).symm.trans H; rw [hy184]; with_reducible exact H2_) | (have H2_ := (Option.bind_some _ _).symm.trans H; with_reducible exact H2_) | with_reducible exact H | (rw [hy184]; exact H) | exact H
          have Ny184 := aM_ hy184
          clear hy184
          obtain rfl := Option.some.inj H
          have p170 : 0 ≤ (x5_1 : Int) := of_decide_eq_true (by (with_reducible assumption))
          have q170 : x5_1 < (l0.length : Int) := of_decide_eq_true (by (with_reducible assumption))
          obtain ⟨ad170, e170, hx170_0⟩ := Kd.at_string HR0.out x5_1 p170 q170
          cases e170
          replace hx170_0 := (HB.out.cell (wB_ w _ hx170_0)).trans hx170_0
          replace p170 := eq_true p170
          replace q170 := eq_true q170
          try go_wp2_with (first | (go_at_call 90; (with_reducible refine (spec_l2Before.calls k1 (rdOf eB_ l0 x5_1) a1 false _ A5.out).mono ?_); rintro e w' ⟨rfl, ⟨nd, rfl⟩⟩; have p172 : 0 ≤ (x5_1 : Int) := of_decide_eq_true (by (with_reducible assumption)); have q172 : x5_1 < (l0.length : Int) := of_decide_eq_true (by (with_reducible assumption)); obtain ⟨ad172, e172, hx172_0⟩ := Kd.at_string HR0.out x5_1 p172 q172; obtain rfl : ad170 = ad172 := (by injection e172); replace hx172_0 := (HB.out.cell (wB_ w _ hx172_0)).trans hx172_0; replace p172 := eq_true p172; replace q172 := eq_true q172))
          (try (rw [drewN_self wr]; generalize hq_ : World.drewN wr _ = wr; have n0_ : Aside0 (Below w.heap.size w wr) := ⟨by rw [← hq_]; exact (by repeat (first | (with_reducible first | exact HB.out | apply bA_ | apply bN_ | apply bD_) | exact HB.out))⟩; clear HB hq_; have HB := n0_; clear n0_))
          have n0_ := aM_ (bD_ HB.out)
          clear HB
          have HB := n0_
          clear n0_
          obtain ⟨i016, hi016, _, hsz16, _⟩ := info_parts info9
          obtain ⟨hcut16, hA16, hC16⟩ := print_take_of (P := Tryz.prog) Value.string (⟨#[]⟩ : ByteArray) 49 9 .i64 Tryz.underlying49 hi016 hsz16 (some ad170) c0 l0 x5_1 (of_decide_eq_true (by (with_reducible assumption))) (of_decide_eq_true (by (with_reducible assumption))) HC0.out
          have HR173 := aM_ (Kd.C_of_reads (h1 := fun _ => rfl) (hA16 _ (Kd.reads_of_C HR0.out)))
          have HC173 := aM_ hC16
          clear hA16 hC16 hi016 hsz16
          obtain ⟨i017, hi017, _, hsz17, _⟩ := info_parts info9
          obtain ⟨A17, hcut17, hA17, hC17⟩ := print_drop_of (P := Tryz.prog) Value.string (⟨#[]⟩ : ByteArray) 49 9 .i64 Tryz.underlying49 hi017 hsz17 (some ad170) c0 l0 x5_1 (of_decide_eq_true (by (with_reducible assumption))) (of_decide_eq_true (by (with_reducible assumption))) HC0.out
          have HR183 := aM_ (Kd.C_of_reads (h1 := fun _ => rfl) (hA17 _ (Kd.reads_of_C HR0.out)))
          have HC183 := aM_ hC17
          clear hA17 hC17 hi017 hsz17
          refine start_ (n := 12) (S := fun w' => True) (ds := []) #[fy, fy, fy, fy, fy, fy, fy, fy, fy, fy, fy, fy] (by kernel_rfl) rfl rfl trivial (fun hHeld => ?_); refine with_tabW spec_l2PutA.tab6 spec_l2PutA.bits6 (fun HT_ HW_ => ?_)
          generalize wr.drew = w15 at HB HR173 HR183 hHeld ⊢
          refine pure_ (i := 0) (N := some 33) (v := ?_) (a' := ?_) #[ty, fy, fy, fy, fy, fy, fy, fy, fy, fy, fy, fy] rfl rfl (aO_ HT_.out (by kernel_rfl)) (fun _ _ _ h => h) (Or.inl ⟨by rfl, ?_⟩) ?_ ?_; rotate_left; (intro w'; go_simp; with_reducible rfl); rotate_left; (simp only [Act.put, sA_, sB_, sC_, i6_, i3_]; rfl)
          refine pure_ (i := 1) (N := some 34) (v := ?_) (a' := ?_) #[ty, ty, fy, fy, fy, fy, fy, fy, fy, fy, fy, fy] rfl rfl (aO_ HT_.out (by kernel_rfl)) (fun _ _ _ h => h) (Or.inl ⟨by rfl, ?_⟩) ?_ ?_; rotate_left; (intro w'; go_simp; with_reducible rfl); rotate_left; (simp only [Act.put, sA_, sB_, sC_, i6_, i3_]; rfl)
          refine pure_ (i := 2) (N := some 35) (v := ?_) (a' := ?_) #[ty, ty, ty, fy, fy, fy, fy, fy, fy, fy, fy, fy] rfl rfl (aO_ HT_.out (by kernel_rfl)) (fun _ _ _ h => h) (Or.inl ⟨by rfl, ?_⟩) ?_ ?_; rotate_left; (intro w'; go_simp; with_reducible rfl); rotate_left; (simp only [Act.put, sA_, sB_, sC_, i6_, i3_]; rfl)
          refine pure_ (i := 4) (N := some 37) (v := ?_) (a' := ?_) #[ty, ty, ty, fy, ty, fy, fy, fy, fy, fy, fy, fy] rfl rfl (aO_ HT_.out (by kernel_rfl)) (fun _ _ _ h => h) (Or.inl ⟨by rfl, ?_⟩) ?_ ?_; rotate_left; (intro w'; go_simp; with_reducible rfl); rotate_left; (simp only [Act.put, sA_, sB_, sC_, i6_, i3_]; rfl)
          refine pure_ (i := 7) (N := some 40) (v := ?_) (a' := ?_) #[ty, ty, ty, fy, ty, fy, fy, ty, fy, fy, fy, fy] rfl rfl (aO_ HT_.out (by kernel_rfl)) (fun _ _ _ h => h) (Or.inl ⟨by rfl, ?_⟩) ?_ ?_; rotate_left; (intro w'; go_simp; with_reducible rfl); rotate_left; (simp only [Act.put, sA_, sB_, sC_, i6_, i3_]; rfl)
          refine pure_ (i := 8) (N := some 41) (v := ?_) (a' := ?_) #[ty, ty, ty, fy, ty, fy, fy, ty, ty, fy, fy, fy] rfl rfl (aO_ HT_.out (by kernel_rfl)) (fun _ _ _ h => h) (Or.inl ⟨by rfl, ?_⟩) ?_ ?_; rotate_left; (intro w'; go_simp; with_reducible rfl); rotate_left; (simp only [Act.put, sA_, sB_, sC_, i6_, i3_]; rfl)
          refine pure_ (i := 9) (N := some 42) (v := ?_) (a' := ?_) #[ty, ty, ty, fy, ty, fy, fy, ty, ty, ty, fy, fy] rfl rfl (aO_ HT_.out (by kernel_rfl)) (fun _ _ _ h => h) (Or.inl ⟨by rfl, ?_⟩) ?_ ?_; rotate_left; (intro w'; go_simp; with_reducible rfl); rotate_left; (simp only [Act.put, sA_, sB_, sC_, i6_, i3_]; rfl)
          refine join_ (σ := Value × Value) 3 #[ty, ty, ty, ty, ty, ty, fy, ty, ty, ty, fy, fy] (fun s_ => [(36, s_.1), (38, s_.2)]) (fun s_ w' => (Kd.R Kd.string 9 w' w.heap.size (fun k_ => some k_ ≠ (s_.2 : Value).ownBlock) s_.1 t174) ∧ (Kd.R Kd.string 9 w' w.heap.size (fun k_ => some k_ ≠ (s_.1 : Value).ownBlock) s_.2 y177) ∧ (Below w.heap.size w w')) ?_ ?_
          rotate_left
          ·
           intro hCont
           refine two_ (i := 3) (j := 5) (Ni := some 36) (Nj := some 38) #[ty, ty, ty, ty, ty, fy, fy, ty, ty, ty, fy, fy] #[ty, ty, ty, fy, ty, ty, fy, ty, ty, ty, fy, fy] rfl rfl rfl rfl (two_of HT_.out (by kernel_rfl)) (by decide) (by decide) (fun K hK => ?_) (fun K hK => ?_)
           ·
            skip
            refine goes_ Tryz.func78 (by kernel_rfl) rfl #[.slice (some ad170) (l0.take (x5_1 : Int).toNat).length c0] (by rfl) rfl rfl (by (try simp only [sD_, sE_, sF_]); (rw [show (l0.take (x5_1 : Int).toNat).length = x5_1.toNat from (by rw [List.length_take]; have h_ : (x5_1 : Int) ≤ (l0.length : Int) := of_decide_eq_true (by (with_reducible assumption)); omega)] <;> rfl)) ?_
            with_reducible refine (spec_l2Own.calls _ _ (l0.take (x5_1 : Int).toNat) t174 _ ?side1 ?side2 A10.out).mono ?_
            (case side1 => repeat (first | exact (k4_ HR173.out HB.out) | (with_reducible refine Kd.C_alloc ?_ _) | (with_reducible refine Kd.C_drewN ?_ _) | (with_reducible refine Kd.C_drew ?_)))
            (case side2 => exact HC173.out)
            rintro e w18 ⟨v175, rfl, ho0, hb⟩
            refine ⟨_, rfl, ?_⟩
            have n0_ := aM_ (k5_ ho0 (bZ_ HB.out))
            have n1_ := aM_ (bT_ HB.out hb)
            clear HB
            have HO176 := n0_
            have HB := n1_
            clear n0_ n1_
            (try clear hb)
            (try clear ho0)
            refine hK.out _ _ trivial (fun hHeld => ?_)
            clear hK K
            refine norm_ (a' := ?_) ?_ ?_; rotate_left; (show Act.put _ (some 36) _ = _; simp only [Act.put, sA_, sB_, sC_, i6_, i3_]; rfl)
            refine one_ (i := 5) (N := some 38) #[ty, ty, ty, ty, ty, ty, fy, ty, ty, ty, fy, fy] rfl rfl (one_of HT_.out (by kernel_rfl)) (by decide) (fun K hK => ?_)
            refine Kd.R_lit_step Kd.string _ 9 ?hg (N := 38) ?hd (xs := ([a1] : List ByteArray)) (inner := [.string a1]) (ok := fun _ => True) (okp := fun _ => True) ?hr ?hp (fun _ hk => hk) trivial (Below.refl _ _) (Nat.le_refl _) (by simp) ?_; (case hd => rfl); (case hg => rfl); (case hr => (go_simp; done)); (case hp => exact (Reps.one (show Kd.M Kd.string _ _ _ a1 [.string a1] from rfl) (Reps.none _ _)))
            intro v178 w19 ho20 hb hg_ hnew_
            clear hg_ hnew_
            (rw [← Ny177.out] at ho20)
            have n0_ := aM_ (Kd.R_elder' HO176.out (Kd.R_base ho20) hb)
            have n1_ := aM_ (k5_ (Kd.R_new' ho20 (Kd.R_lt HO176.out)) (bZ_ HB.out))
            have n2_ := aM_ (bT_ HB.out hb)
            clear HO176
            clear HB
            have HO176 := n0_
            have HO179 := n1_
            have HB := n2_
            clear n0_ n1_ n2_
            clear hb ho20
            refine hK.out _ _ trivial (fun hHeld => ?_)
            clear hK K
            refine norm_ (a' := ?_) ?_ ?_; rotate_left; (show Act.put _ (some 38) _ = _; simp only [Act.put, sA_, sB_, sC_, i6_, i3_]; rfl)
            exact norm_ (by simp only [putAll, Act.put, sA_, sB_, sC_]) (hCont (v175, v178) _ ⟨(by exact kM_ HO176.out (fun _ hk => hk.2)), (by exact kM_ HO179.out (fun _ hk => hk.2)), HB.out⟩)
           ·
            skip
            refine Kd.R_lit_step Kd.string _ 9 ?hg (N := 38) ?hd (xs := ([a1] : List ByteArray)) (inner := [.string a1]) (ok := fun _ => True) (okp := fun _ => True) ?hr ?hp (fun _ hk => hk) trivial (Below.refl _ _) (Nat.le_refl _) (by simp) ?_; (case hd => rfl); (case hg => rfl); (case hr => (go_simp; done)); (case hp => exact (Reps.one (show Kd.M Kd.string _ _ _ a1 [.string a1] from rfl) (Reps.none _ _)))
            intro v178 w18 ho19 hb hg_ hnew_
            clear hg_ hnew_
            (rw [← Ny177.out] at ho19)
            have n0_ := aM_ (k5_ ho19 (bZ_ HB.out))
            have n1_ := aM_ (bT_ HB.out hb)
            clear HB
            have HO179 := n0_
            have HB := n1_
            clear n0_ n1_
            clear hb ho19
            refine hK.out _ _ trivial (fun hHeld => ?_)
            clear hK K
            refine norm_ (a' := ?_) ?_ ?_; rotate_left; (show Act.put _ (some 38) _ = _; simp only [Act.put, sA_, sB_, sC_, i6_, i3_]; rfl)
            refine one_ (i := 3) (N := some 36) #[ty, ty, ty, ty, ty, ty, fy, ty, ty, ty, fy, fy] rfl rfl (one_of HT_.out (by kernel_rfl)) (by decide) (fun K hK => ?_)
            refine goes_ Tryz.func78 (by kernel_rfl) rfl #[.slice (some ad170) (l0.take (x5_1 : Int).toNat).length c0] (by rfl) rfl rfl (by (try simp only [sD_, sE_, sF_]); (rw [show (l0.take (x5_1 : Int).toNat).length = x5_1.toNat from (by rw [List.length_take]; have h_ : (x5_1 : Int) ≤ (l0.length : Int) := of_decide_eq_true (by (with_reducible assumption)); omega)] <;> rfl)) ?_
            with_reducible refine (spec_l2Own.calls _ _ (l0.take (x5_1 : Int).toNat) t174 _ ?side1 ?side2 A10.out).mono ?_
            (case side1 => repeat (first | exact (k4_ HR173.out HB.out) | (with_reducible refine Kd.C_alloc ?_ _) | (with_reducible refine Kd.C_drewN ?_ _) | (with_reducible refine Kd.C_drew ?_)))
            (case side2 => exact HC173.out)
            rintro e w20 ⟨v175, rfl, ho0, hb⟩
            refine ⟨_, rfl, ?_⟩
            have n0_ := aM_ (Kd.R_elder' HO179.out (Kd.R_base ho0) hb)
            have n1_ := aM_ (k5_ (Kd.R_new' ho0 (Kd.R_lt HO179.out)) (bZ_ HB.out))
            have n2_ := aM_ (bT_ HB.out hb)
            clear HO179
            clear HB
            have HO179 := n0_
            have HO176 := n1_
            have HB := n2_
            clear n0_ n1_ n2_
            (try clear hb)
            (try clear ho0)
            refine hK.out _ _ trivial (fun hHeld => ?_)
            clear hK K
            refine norm_ (a' := ?_) ?_ ?_; rotate_left; (show Act.put _ (some 36) _ = _; simp only [Act.put, sA_, sB_, sC_, i6_, i3_]; rfl)
            exact norm_ (by simp only [putAll, Act.put, sA_, sB_, sC_]) (hCont (v175, v178) _ ⟨(by exact kM_ HO176.out (fun _ hk => hk.2)), (by exact kM_ HO179.out (fun _ hk => hk.2)), HB.out⟩)
          rintro ⟨v175, v178⟩ w21 ⟨h0_, h1_, h2_⟩
          have n0_ : Aside0 (Kd.R Kd.string 9 w21 w.heap.size (fun k_ => some k_ ≠ (v178 : Value).ownBlock) v175 t174) := ⟨h0_⟩
          have n1_ : Aside0 (Kd.R Kd.string 9 w21 w.heap.size (fun k_ => some k_ ≠ (v175 : Value).ownBlock) v178 y177) := ⟨h1_⟩
          have n2_ : Aside0 (Below w.heap.size w w21) := ⟨h2_⟩
          clear HB
          clear h0_ h1_ h2_
          have HO176 := n0_
          have HO179 := n1_
          have HB := n2_
          clear n0_ n1_ n2_
          have hHeld := trivial
          obtain ⟨Ao23, co23, eo23⟩ := kS_ HO179.out
          (subst eo23)
          refine norm_ (a' := ?_) ?_ ?_
          rotate_left
          ·
           simp only [putAll, Act.put, sA_, sB_, sC_]
           rfl
          refine one_ (i := 6) (N := some 39) #[ty, ty, ty, ty, ty, ty, ty, ty, ty, ty, fy, fy] rfl rfl (one_of HT_.out (by kernel_rfl)) (by decide) (fun K hK => ?_)
          refine Kd.R_append_rows_step Kd.string (w0 := w) w.heap.size (by rfl) (.tmp 36) (.tmp 38) 49 9 (.string ⟨#[]⟩) 16 rfl Tryz.underlying49 info9 rfl (by decide) (by omega) v175 t174 y177 _ _ _ (fun k_ => some k_ ≠ (.slice Ao23 y177.length co23 : Value).ownBlock) (fun _ => False) rfl rfl ?aO ?aR (fun _ _ h => h) (fun _ h => h.elim) ?aF ?aB ?aS ?aL ?_
          (case aR => repeat (first | exact (kR_ HO179.out).2.2 | (with_reducible refine Kd.C_alloc ?_ _) | (with_reducible refine Kd.C_drewN ?_ _) | (with_reducible refine Kd.C_drew ?_)))
          (case aB => exact HB.out)
          (case aF => exact (fun k_ hk => Kd.fresh' (Kd.R_lt HO179.out) k_ hk))
          (case aO => exact HO176.out)
          (case aS => exact (bZ_ HB.out))
          (case aL => have := LMc11.out; omega)
          intro v181 w22 ho hb hg hat
          rw [← Ny180.out] at ho
          have n0_ := aM_ (Kd.R_after (ok := (fun _ => True)) (by exact kM_ HO179.out (fun _ hk => ⟨trivial, hk⟩)) hg hat)
          have n1_ := aM_ (hb)
          have n2_ := aM_ (ho)
          clear HO179
          clear HB
          clear HO176
          have HO179 := n0_
          have HB := n1_
          have HO182 := n2_
          clear n0_ n1_ n2_
          clear ho hb hg hat
          refine hK.out _ _ trivial (fun hHeld => ?_)
          clear hK K
          refine norm_ (a' := ?_) ?_ ?_; rotate_left; (show Act.put _ (some 39) _ = _; simp only [Act.put, sA_, sB_, sC_, i6_, i3_]; rfl)
          refine one_ (i := 10) (N := some 43) #[ty, ty, ty, ty, ty, ty, ty, ty, ty, ty, ty, fy] rfl rfl (one_of HT_.out (by kernel_rfl)) (by decide) (fun K hK => ?_)
          refine Kd.R_append_rows_step Kd.string (w0 := w) w.heap.size (by rfl) (.tmp 39) (.tmp 42) 49 9 (.string ⟨#[]⟩) 16 rfl Tryz.underlying49 info9 rfl (by decide) (by omega) v181 y180 (l0.drop (x5_1 : Int).toNat) _ _ _ (fun k_ => some k_ ≠ (.slice Ao23 y177.length co23 : Value).ownBlock) (fun _ => False) rfl rfl ?aO ?aR (fun _ _ h => h) (fun _ h => h.elim) ?aF ?aB ?aS ?aL ?_
          (case aR => (rw [← show (l0.drop (x5_1 : Int).toNat).length = (l0.length - x5_1.toNat) from List.length_drop]; repeat (first | exact (k4_ HR183.out HB.out) | (with_reducible refine Kd.C_alloc ?_ _) | (with_reducible refine Kd.C_drewN ?_ _) | (with_reducible refine Kd.C_drew ?_))))
          (case aB => exact HB.out)
          (case aF => exact (fun k_ hk => Kd.fresh' (Kd.R_lt HO179.out) k_ hk))
          (case aO => exact HO182.out)
          (case aS => exact (bZ_ HB.out))
          (case aL => have := LMc14.out; have hlx_ := (show (l0.drop (x5_1 : Int).toNat).length = (l0.length - x5_1.toNat) from List.length_drop); omega)
          intro v185 w24 ho hb hg hat
          rw [← Ny184.out] at ho
          have n0_ := aM_ (Kd.R_after (ok := (fun _ => True)) HO179.out hg hat)
          have n1_ := aM_ (hb)
          have n2_ := aM_ (ho)
          clear HO179
          clear HB
          clear HO182
          have HO179 := n0_
          have HB := n1_
          have HO186 := n2_
          clear n0_ n1_ n2_
          clear ho hb hg hat
          refine hK.out _ _ trivial (fun hHeld => ?_)
          clear hK K
          refine norm_ (a' := ?_) ?_ ?_; rotate_left; (show Act.put _ (some 43) _ = _; simp only [Act.put, sA_, sB_, sC_, i6_, i3_]; rfl)
          refine pure_ (i := 11) (N := some 4) (v := ?_) (a' := ?_) #[ty, ty, ty, ty, ty, ty, ty, ty, ty, ty, ty, ty] rfl rfl (aO_ HT_.out (by kernel_rfl)) (fun _ _ _ h => h) (Or.inl ⟨by rfl, ?_⟩) ?_ ?_; rotate_left; (intro w'; go_simp; with_reducible rfl); rotate_left; (simp only [Act.put, sA_, sB_, sC_, i6_, i3_]; rfl)
          refine done_ (done_of HT_.out (by kernel_rfl)) ?_
          try go_wp2
          go_ret
          exact ⟨_, by rfl, by exact kM_ HO186.out (fun _ hk => trivial), by exact HB.out⟩
         ·
          rw [if_neg c14] at H
          exact absurd H (by simp)
        ·
         rw [if_neg c11] at H
         exact absurd H (by simp)
       ·
        rw [if_neg c9] at H
        exact absurd H (by simp)
    ·
     rw [if_neg c4] at H
     exact absurd H (by simp)
   ·
    rw [if_neg c3] at H
    have c3b0 := decide_eq_false c3
    clear c3
    by_cases c25 : 0 ≤ x5_1
    ·
     rw [if_pos c25] at H
     have c25b0 := eq_true c25
     have c25b1 := decide_eq_true c25
     clear c25
     by_cases c26 : x5_1 ≤ (l0.length : Int)
     ·
      rw [if_pos c26] at H
      have c26b0 := eq_true c26
      have c26b1 := decide_eq_true c26
      clear c26
      replace H := oB_.mp H
      obtain ⟨t188, A270, H⟩ := H
      try dsimp only at H
      have A27 := aM_ A270
      clear A270
      obtain ⟨y191, hy191⟩ : ∃ y_ : List ByteArray, y_ = (([a1] : List ByteArray)) := ⟨_, rfl⟩
      replace H : (if t188.length + y191.length < 8796093022208 then ((some (t188 ++ y191 : List ByteArray)).bind fun y194 => (if y194.length + (l0.drop (x5_1 : Int).toNat).length < 8796093022208 then (some (y194 ++ (l0.drop (x5_1 : Int).toNat))) else (none))) else (none)) = some r := by first | (rw [hy191]; with_reducible exact H) | (have H2_ := (Option.bind_some _ _).symm.trans H; rw [hy191]; with_reducible exact H2_) | (have H2_ := (Option.bind_some _ _).symm.trans H; with_reducible exact H2_) | with_reducible exact H | (rw [hy191]; exact H) | exact H
      have Ny191 := aM_ hy191
      clear hy191
      by_cases c28 : t188.length + y191.length < 8796093022208
      ·
       rw [if_pos c28] at H
       have LMc28 := aM_ c28
       clear c28
       obtain ⟨y194, hy194⟩ : ∃ y_ : List ByteArray, y_ = (t188 ++ y191) := ⟨_, rfl⟩
       replace H : (if y194.length + (l0.drop (x5_1 : Int).toNat).length < 8796093022208 then (some (y194 ++ (l0.drop (x5_1 : Int).toNat))) else (none)) = some r := by first | (rw [hy194]; with_reducible exact H) | (have H2_ := (Option.bind_some _ _).symm.trans H; rw [hy194]; with_reducible exact H2_) | (have H2_ := (Option.bind_some _ _).symm.trans H; with_reducible exact H2_) | with_reducible exact H | (rw [hy194]; exact H) | exact H
       have Ny194 := aM_ hy194
       clear hy194
       have c29b0 := eq_true (of_decide_eq_true (by (with_reducible assumption)) : 0 ≤ x5_1)
       have c30b0 := eq_true (of_decide_eq_true (by (with_reducible assumption)) : x5_1 ≤ (l0.length : Int))
       by_cases c31 : y194.length + (l0.drop (x5_1 : Int).toNat).length < 8796093022208
       ·
        rw [if_pos c31] at H
        have LMc31 := aM_ c31
        clear c31
        obtain ⟨y198, hy198⟩ : ∃ y_ : List ByteArray, y_ = (y194 ++ (l0.drop (x5_1 : Int).toNat)) := ⟨_, rfl⟩
        replace H : (some y198) = some r := by first | (rw [hy198]; with_reducible exact H) | (have H2_ := (Option.bind_some _ _).symm.trans H; rw [hy198]; with_reducible exact H2_) | (have H2_ := (Option.bind_some _ _).symm.trans H; with_reducible exact H2_) | with_reducible exact H | (rw [hy198]; exact H) | exact H
        have Ny198 := aM_ hy198
        clear hy198
        obtain rfl := Option.some.inj H
        try go_wp2
        have n0_ := aM_ (bD_ HB.out)
        clear HB
        have HB := n0_
        clear n0_
        obtain ⟨i033, hi033, _, hsz33, _⟩ := info_parts info9
        obtain ⟨hcut33, hA33, hC33⟩ := print_take_of (P := Tryz.prog) Value.string (⟨#[]⟩ : ByteArray) 49 9 .i64 Tryz.underlying49 hi033 hsz33 A0 c0 l0 x5_1 (of_decide_eq_true (by (with_reducible assumption))) (of_decide_eq_true (by (with_reducible assumption))) HC0.out
        have HR187 := aM_ (Kd.C_of_reads (h1 := fun _ => rfl) (hA33 _ (Kd.reads_of_C HR0.out)))
        have HC187 := aM_ hC33
        clear hA33 hC33 hi033 hsz33
        obtain ⟨i034, hi034, _, hsz34, _⟩ := info_parts info9
        obtain ⟨A34, hcut34, hA34, hC34⟩ := print_drop_of (P := Tryz.prog) Value.string (⟨#[]⟩ : ByteArray) 49 9 .i64 Tryz.underlying49 hi034 hsz34 A0 c0 l0 x5_1 (of_decide_eq_true (by (with_reducible assumption))) (of_decide_eq_true (by (with_reducible assumption))) HC0.out
        have HR197 := aM_ (Kd.C_of_reads (h1 := fun _ => rfl) (hA34 _ (Kd.reads_of_C HR0.out)))
        have HC197 := aM_ hC34
        clear hA34 hC34 hi034 hsz34
        refine start_ (n := 12) (S := fun w' => True) (ds := []) #[fy, fy, fy, fy, fy, fy, fy, fy, fy, fy, fy, fy] (by kernel_rfl) rfl rfl trivial (fun hHeld => ?_); refine with_tabW spec_l2PutA.tab6 spec_l2PutA.bits6 (fun HT_ HW_ => ?_)
        generalize wr.drew = w32 at HB HR187 HR197 hHeld ⊢
        refine pure_ (i := 0) (N := some 33) (v := ?_) (a' := ?_) #[ty, fy, fy, fy, fy, fy, fy, fy, fy, fy, fy, fy] rfl rfl (aO_ HT_.out (by kernel_rfl)) (fun _ _ _ h => h) (Or.inl ⟨by rfl, ?_⟩) ?_ ?_; rotate_left; (intro w'; go_simp; with_reducible rfl); rotate_left; (simp only [Act.put, sA_, sB_, sC_, i6_, i3_]; rfl)
        refine pure_ (i := 1) (N := some 34) (v := ?_) (a' := ?_) #[ty, ty, fy, fy, fy, fy, fy, fy, fy, fy, fy, fy] rfl rfl (aO_ HT_.out (by kernel_rfl)) (fun _ _ _ h => h) (Or.inl ⟨by rfl, ?_⟩) ?_ ?_; rotate_left; (intro w'; go_simp; with_reducible rfl); rotate_left; (simp only [Act.put, sA_, sB_, sC_, i6_, i3_]; rfl)
        refine pure_ (i := 2) (N := some 35) (v := ?_) (a' := ?_) #[ty, ty, ty, fy, fy, fy, fy, fy, fy, fy, fy, fy] rfl rfl (aO_ HT_.out (by kernel_rfl)) (fun _ _ _ h => h) (Or.inl ⟨by rfl, ?_⟩) ?_ ?_; rotate_left; (intro w'; go_simp; with_reducible rfl); rotate_left; (simp only [Act.put, sA_, sB_, sC_, i6_, i3_]; rfl)
        refine pure_ (i := 4) (N := some 37) (v := ?_) (a' := ?_) #[ty, ty, ty, fy, ty, fy, fy, fy, fy, fy, fy, fy] rfl rfl (aO_ HT_.out (by kernel_rfl)) (fun _ _ _ h => h) (Or.inl ⟨by rfl, ?_⟩) ?_ ?_; rotate_left; (intro w'; go_simp; with_reducible rfl); rotate_left; (simp only [Act.put, sA_, sB_, sC_, i6_, i3_]; rfl)
        refine pure_ (i := 7) (N := some 40) (v := ?_) (a' := ?_) #[ty, ty, ty, fy, ty, fy, fy, ty, fy, fy, fy, fy] rfl rfl (aO_ HT_.out (by kernel_rfl)) (fun _ _ _ h => h) (Or.inl ⟨by rfl, ?_⟩) ?_ ?_; rotate_left; (intro w'; go_simp; with_reducible rfl); rotate_left; (simp only [Act.put, sA_, sB_, sC_, i6_, i3_]; rfl)
        refine pure_ (i := 8) (N := some 41) (v := ?_) (a' := ?_) #[ty, ty, ty, fy, ty, fy, fy, ty, ty, fy, fy, fy] rfl rfl (aO_ HT_.out (by kernel_rfl)) (fun _ _ _ h => h) (Or.inl ⟨by rfl, ?_⟩) ?_ ?_; rotate_left; (intro w'; go_simp; with_reducible rfl); rotate_left; (simp only [Act.put, sA_, sB_, sC_, i6_, i3_]; rfl)
        refine pure_ (i := 9) (N := some 42) (v := ?_) (a' := ?_) #[ty, ty, ty, fy, ty, fy, fy, ty, ty, ty, fy, fy] rfl rfl (aO_ HT_.out (by kernel_rfl)) (fun _ _ _ h => h) (Or.inl ⟨by rfl, ?_⟩) ?_ ?_; rotate_left; (intro w'; go_simp; with_reducible rfl); rotate_left; (simp only [Act.put, sA_, sB_, sC_, i6_, i3_]; rfl)
        refine join_ (σ := Value × Value) 3 #[ty, ty, ty, ty, ty, ty, fy, ty, ty, ty, fy, fy] (fun s_ => [(36, s_.1), (38, s_.2)]) (fun s_ w' => (Kd.R Kd.string 9 w' w.heap.size (fun k_ => some k_ ≠ (s_.2 : Value).ownBlock) s_.1 t188) ∧ (Kd.R Kd.string 9 w' w.heap.size (fun k_ => some k_ ≠ (s_.1 : Value).ownBlock) s_.2 y191) ∧ (Below w.heap.size w w')) ?_ ?_
        rotate_left
        ·
         intro hCont
         refine two_ (i := 3) (j := 5) (Ni := some 36) (Nj := some 38) #[ty, ty, ty, ty, ty, fy, fy, ty, ty, ty, fy, fy] #[ty, ty, ty, fy, ty, ty, fy, ty, ty, ty, fy, fy] rfl rfl rfl rfl (two_of HT_.out (by kernel_rfl)) (by decide) (by decide) (fun K hK => ?_) (fun K hK => ?_)
         ·
          skip
          refine goes_ Tryz.func78 (by kernel_rfl) rfl #[.slice A0 (l0.take (x5_1 : Int).toNat).length c0] (by rfl) rfl rfl (by (try simp only [sD_, sE_, sF_]); (rw [show (l0.take (x5_1 : Int).toNat).length = x5_1.toNat from (by rw [List.length_take]; have h_ : (x5_1 : Int) ≤ (l0.length : Int) := of_decide_eq_true (by (with_reducible assumption)); omega)] <;> rfl)) ?_
          with_reducible refine (spec_l2Own.calls _ _ (l0.take (x5_1 : Int).toNat) t188 _ ?side1 ?side2 A27.out).mono ?_
          (case side1 => repeat (first | exact (k4_ HR187.out HB.out) | (with_reducible refine Kd.C_alloc ?_ _) | (with_reducible refine Kd.C_drewN ?_ _) | (with_reducible refine Kd.C_drew ?_)))
          (case side2 => exact HC187.out)
          rintro e w35 ⟨v189, rfl, ho0, hb⟩
          refine ⟨_, rfl, ?_⟩
          have n0_ := aM_ (k5_ ho0 (bZ_ HB.out))
          have n1_ := aM_ (bT_ HB.out hb)
          clear HB
          have HO190 := n0_
          have HB := n1_
          clear n0_ n1_
          (try clear hb)
          (try clear ho0)
          refine hK.out _ _ trivial (fun hHeld => ?_)
          clear hK K
          refine norm_ (a' := ?_) ?_ ?_; rotate_left; (show Act.put _ (some 36) _ = _; simp only [Act.put, sA_, sB_, sC_, i6_, i3_]; rfl)
          refine one_ (i := 5) (N := some 38) #[ty, ty, ty, ty, ty, ty, fy, ty, ty, ty, fy, fy] rfl rfl (one_of HT_.out (by kernel_rfl)) (by decide) (fun K hK => ?_)
          refine Kd.R_lit_step Kd.string _ 9 ?hg (N := 38) ?hd (xs := ([a1] : List ByteArray)) (inner := [.string a1]) (ok := fun _ => True) (okp := fun _ => True) ?hr ?hp (fun _ hk => hk) trivial (Below.refl _ _) (Nat.le_refl _) (by simp) ?_; (case hd => rfl); (case hg => rfl); (case hr => (go_simp; done)); (case hp => exact (Reps.one (show Kd.M Kd.string _ _ _ a1 [.string a1] from rfl) (Reps.none _ _)))
          intro v192 w36 ho37 hb hg_ hnew_
          clear hg_ hnew_
          (rw [← Ny191.out] at ho37)
          have n0_ := aM_ (Kd.R_elder' HO190.out (Kd.R_base ho37) hb)
          have n1_ := aM_ (k5_ (Kd.R_new' ho37 (Kd.R_lt HO190.out)) (bZ_ HB.out))
          have n2_ := aM_ (bT_ HB.out hb)
          clear HO190
          clear HB
          have HO190 := n0_
          have HO193 := n1_
          have HB := n2_
          clear n0_ n1_ n2_
          clear hb ho37
          refine hK.out _ _ trivial (fun hHeld => ?_)
          clear hK K
          refine norm_ (a' := ?_) ?_ ?_; rotate_left; (show Act.put _ (some 38) _ = _; simp only [Act.put, sA_, sB_, sC_, i6_, i3_]; rfl)
          exact norm_ (by simp only [putAll, Act.put, sA_, sB_, sC_]) (hCont (v189, v192) _ ⟨(by exact kM_ HO190.out (fun _ hk => hk.2)), (by exact kM_ HO193.out (fun _ hk => hk.2)), HB.out⟩)
         ·
          skip
          refine Kd.R_lit_step Kd.string _ 9 ?hg (N := 38) ?hd (xs := ([a1] : List ByteArray)) (inner := [.string a1]) (ok := fun _ => True) (okp := fun _ => True) ?hr ?hp (fun _ hk => hk) trivial (Below.refl _ _) (Nat.le_refl _) (by simp) ?_; (case hd => rfl); (case hg => rfl); (case hr => (go_simp; done)); (case hp => exact (Reps.one (show Kd.M Kd.string _ _ _ a1 [.string a1] from rfl) (Reps.none _ _)))
          intro v192 w35 ho36 hb hg_ hnew_
          clear hg_ hnew_
          (rw [← Ny191.out] at ho36)
          have n0_ := aM_ (k5_ ho36 (bZ_ HB.out))
          have n1_ := aM_ (bT_ HB.out hb)
          clear HB
          have HO193 := n0_
          have HB := n1_
          clear n0_ n1_
          clear hb ho36
          refine hK.out _ _ trivial (fun hHeld => ?_)
          clear hK K
          refine norm_ (a' := ?_) ?_ ?_; rotate_left; (show Act.put _ (some 38) _ = _; simp only [Act.put, sA_, sB_, sC_, i6_, i3_]; rfl)
          refine one_ (i := 3) (N := some 36) #[ty, ty, ty, ty, ty, ty, fy, ty, ty, ty, fy, fy] rfl rfl (one_of HT_.out (by kernel_rfl)) (by decide) (fun K hK => ?_)
          refine goes_ Tryz.func78 (by kernel_rfl) rfl #[.slice A0 (l0.take (x5_1 : Int).toNat).length c0] (by rfl) rfl rfl (by (try simp only [sD_, sE_, sF_]); (rw [show (l0.take (x5_1 : Int).toNat).length = x5_1.toNat from (by rw [List.length_take]; have h_ : (x5_1 : Int) ≤ (l0.length : Int) := of_decide_eq_true (by (with_reducible assumption)); omega)] <;> rfl)) ?_
          with_reducible refine (spec_l2Own.calls _ _ (l0.take (x5_1 : Int).toNat) t188 _ ?side1 ?side2 A27.out).mono ?_
          (case side1 => repeat (first | exact (k4_ HR187.out HB.out) | (with_reducible refine Kd.C_alloc ?_ _) | (with_reducible refine Kd.C_drewN ?_ _) | (with_reducible refine Kd.C_drew ?_)))
          (case side2 => exact HC187.out)
          rintro e w37 ⟨v189, rfl, ho0, hb⟩
          refine ⟨_, rfl, ?_⟩
          have n0_ := aM_ (Kd.R_elder' HO193.out (Kd.R_base ho0) hb)
          have n1_ := aM_ (k5_ (Kd.R_new' ho0 (Kd.R_lt HO193.out)) (bZ_ HB.out))
          have n2_ := aM_ (bT_ HB.out hb)
          clear HO193
          clear HB
          have HO193 := n0_
          have HO190 := n1_
          have HB := n2_
          clear n0_ n1_ n2_
          (try clear hb)
          (try clear ho0)
          refine hK.out _ _ trivial (fun hHeld => ?_)
          clear hK K
          refine norm_ (a' := ?_) ?_ ?_; rotate_left; (show Act.put _ (some 36) _ = _; simp only [Act.put, sA_, sB_, sC_, i6_, i3_]; rfl)
          exact norm_ (by simp only [putAll, Act.put, sA_, sB_, sC_]) (hCont (v189, v192) _ ⟨(by exact kM_ HO190.out (fun _ hk => hk.2)), (by exact kM_ HO193.out (fun _ hk => hk.2)), HB.out⟩)
        rintro ⟨v189, v192⟩ w38 ⟨h0_, h1_, h2_⟩
        have n0_ : Aside0 (Kd.R Kd.string 9 w38 w.heap.size (fun k_ => some k_ ≠ (v192 : Value).ownBlock) v189 t188) := ⟨h0_⟩
        have n1_ : Aside0 (Kd.R Kd.string 9 w38 w.heap.size (fun k_ => some k_ ≠ (v189 : Value).ownBlock) v192 y191) := ⟨h1_⟩
        have n2_ : Aside0 (Below w.heap.size w w38) := ⟨h2_⟩
        clear HB
        clear h0_ h1_ h2_
        have HO190 := n0_
        have HO193 := n1_
        have HB := n2_
        clear n0_ n1_ n2_
        have hHeld := trivial
        obtain ⟨Ao40, co40, eo40⟩ := kS_ HO193.out
        (subst eo40)
        refine norm_ (a' := ?_) ?_ ?_
        rotate_left
        ·
         simp only [putAll, Act.put, sA_, sB_, sC_]
         rfl
        refine one_ (i := 6) (N := some 39) #[ty, ty, ty, ty, ty, ty, ty, ty, ty, ty, fy, fy] rfl rfl (one_of HT_.out (by kernel_rfl)) (by decide) (fun K hK => ?_)
        refine Kd.R_append_rows_step Kd.string (w0 := w) w.heap.size (by rfl) (.tmp 36) (.tmp 38) 49 9 (.string ⟨#[]⟩) 16 rfl Tryz.underlying49 info9 rfl (by decide) (by omega) v189 t188 y191 _ _ _ (fun k_ => some k_ ≠ (.slice Ao40 y191.length co40 : Value).ownBlock) (fun _ => False) rfl rfl ?aO ?aR (fun _ _ h => h) (fun _ h => h.elim) ?aF ?aB ?aS ?aL ?_
        (case aR => repeat (first | exact (kR_ HO193.out).2.2 | (with_reducible refine Kd.C_alloc ?_ _) | (with_reducible refine Kd.C_drewN ?_ _) | (with_reducible refine Kd.C_drew ?_)))
        (case aB => exact HB.out)
        (case aF => exact (fun k_ hk => Kd.fresh' (Kd.R_lt HO193.out) k_ hk))
        (case aO => exact HO190.out)
        (case aS => exact (bZ_ HB.out))
        (case aL => have := LMc28.out; omega)
        intro v195 w39 ho hb hg hat
        rw [← Ny194.out] at ho
        have n0_ := aM_ (Kd.R_after (ok := (fun _ => True)) (by exact kM_ HO193.out (fun _ hk => ⟨trivial, hk⟩)) hg hat)
        have n1_ := aM_ (hb)
        have n2_ := aM_ (ho)
        clear HO193
        clear HB
        clear HO190
        have HO193 := n0_
        have HB := n1_
        have HO196 := n2_
        clear n0_ n1_ n2_
        clear ho hb hg hat
        refine hK.out _ _ trivial (fun hHeld => ?_)
        clear hK K
        refine norm_ (a' := ?_) ?_ ?_; rotate_left; (show Act.put _ (some 39) _ = _; simp only [Act.put, sA_, sB_, sC_, i6_, i3_]; rfl)
        refine one_ (i := 10) (N := some 43) #[ty, ty, ty, ty, ty, ty, ty, ty, ty, ty, ty, fy] rfl rfl (one_of HT_.out (by kernel_rfl)) (by decide) (fun K hK => ?_)
        refine Kd.R_append_rows_step Kd.string (w0 := w) w.heap.size (by rfl) (.tmp 39) (.tmp 42) 49 9 (.string ⟨#[]⟩) 16 rfl Tryz.underlying49 info9 rfl (by decide) (by omega) v195 y194 (l0.drop (x5_1 : Int).toNat) _ _ _ (fun k_ => some k_ ≠ (.slice Ao40 y191.length co40 : Value).ownBlock) (fun _ => False) rfl rfl ?aO ?aR (fun _ _ h => h) (fun _ h => h.elim) ?aF ?aB ?aS ?aL ?_
        (case aR => (rw [← show (l0.drop (x5_1 : Int).toNat).length = (l0.length - x5_1.toNat) from List.length_drop]; repeat (first | exact (k4_ HR197.out HB.out) | (with_reducible refine Kd.C_alloc ?_ _) | (with_reducible refine Kd.C_drewN ?_ _) | (with_reducible refine Kd.C_drew ?_))))
        (case aB => exact HB.out)
        (case aF => exact (fun k_ hk => Kd.fresh' (Kd.R_lt HO193.out) k_ hk))
        (case aO => exact HO196.out)
        (case aS => exact (bZ_ HB.out))
        (case aL => have := LMc31.out; have hlx_ := (show (l0.drop (x5_1 : Int).toNat).length = (l0.length - x5_1.toNat) from List.length_drop); omega)
        intro v199 w41 ho hb hg hat
        rw [← Ny198.out] at ho
        have n0_ := aM_ (Kd.R_after (ok := (fun _ => True)) HO193.out hg hat)
        have n1_ := aM_ (hb)
        have n2_ := aM_ (ho)
        clear HO193
        clear HB
        clear HO196
        have HO193 := n0_
        have HB := n1_
        have HO200 := n2_
        clear n0_ n1_ n2_
        clear ho hb hg hat
        refine hK.out _ _ trivial (fun hHeld => ?_)
        clear hK K
        refine norm_ (a' := ?_) ?_ ?_; rotate_left; (show Act.put _ (some 43) _ = _; simp only [Act.put, sA_, sB_, sC_, i6_, i3_]; rfl)
        refine pure_ (i := 11) (N := some 4) (v := ?_) (a' := ?_) #[ty, ty, ty, ty, ty, ty, ty, ty, ty, ty, ty, ty] rfl rfl (aO_ HT_.out (by kernel_rfl)) (fun _ _ _ h => h) (Or.inl ⟨by rfl, ?_⟩) ?_ ?_; rotate_left; (intro w'; go_simp; with_reducible rfl); rotate_left; (simp only [Act.put, sA_, sB_, sC_, i6_, i3_]; rfl)
        refine done_ (done_of HT_.out (by kernel_rfl)) ?_
        try go_wp2
        go_ret
        exact ⟨_, by rfl, by exact kM_ HO200.out (fun _ hk => trivial), by exact HB.out⟩
       ·
        rw [if_neg c31] at H
        exact absurd H (by simp)
      ·
       rw [if_neg c28] at H
       exact absurd H (by simp)
     ·
      rw [if_neg c26] at H
      exact absurd H (by simp)
    ·
     rw [if_neg c25] at H
     exact absurd H (by simp)
def spec_l2PutB.l0 : Nat → List ByteArray → ByteArray → Int → Option (List ByteArray)
 | 0, _, _, _ => none
 | k + 1, x0, x1, x5 => if x5 < (x0.length : Int) then (if 0 ≤ x5 then ((spec_l2Before.f k (rdOf eB_ x0 x5) x1).bind fun t202 => (if t202 = true then (spec_l2PutB.l0 k x0 x1 (wrap64 (x5 + 1))) else (if (rdOf eB_ x0 x5).toList = x1.toList then (some x0) else (none)))) else (none)) else (none)
def spec_l2PutB.f (k : Nat) (l0 : List ByteArray) (a1 : ByteArray) : Option (List ByteArray) := spec_l2PutB.l0 k l0 a1 0
theorem spec_l2PutB.mono_l : ∀ k, (∀ y0 y1 y2, LeO (spec_l2PutB.l0 k y0 y1 y2) (spec_l2PutB.l0 (k + 1) y0 y1 y2))
 | 0 => fun _ _ _ r h => by simp [spec_l2PutB.l0] at h
 | k + 1 => by
  have ih0 := spec_l2PutB.mono_l k
  ·
   intro y0 y1 y2
   unfold spec_l2PutB.l0
   repeat' first
   | (with_reducible exact ih0 _ _ _)
   | (with_reducible exact spec_l2Before.mono _ _ _)
   | (with_reducible exact l3_ _)
   | (with_reducible exact l0_ _)
   | (with_reducible refine l2_ ?_ ?_)
   | (with_reducible refine l1_ ?_ (fun _ => ?_))
   | exact ih0 _ _ _
   | exact spec_l2Before.mono _ _ _
   | exact l0_ _
   | refine l2_ ?_ ?_
   | refine l1_ ?_ (fun _ => ?_)
theorem spec_l2PutB.mono : ∀ a0 a1 k, LeO (spec_l2PutB.f k a0 a1) (spec_l2PutB.f (k + 1) a0 a1) := by
 intro a0 a1 k
 have ih0 := spec_l2PutB.mono_l k
 unfold spec_l2PutB.f
 repeat' first
   | (with_reducible exact ih0 _ _ _)
   | (with_reducible exact spec_l2Before.mono _ _ _)
   | (with_reducible exact l3_ _)
   | (with_reducible exact l0_ _)
   | (with_reducible refine l2_ ?_ ?_)
   | (with_reducible refine l1_ ?_ (fun _ => ?_))
   | exact ih0 _ _ _
   | exact spec_l2Before.mono _ _ _
   | exact l0_ _
   | refine l2_ ?_ ?_
   | refine l1_ ?_ (fun _ => ?_)
theorem spec_l2PutB.calls (k : Nat) (P0_ : Nat → Prop) (u9000_ : Value) (l0 : List ByteArray) (a1 : ByteArray) (r : List ByteArray) (w0 w : World) (hB : Below w0.heap.size w0 w) (ho0 : Kd.R Kd.string 9 w w0.heap.size P0_ u9000_ l0) (h : spec_l2PutB.f k l0 a1 = some r) :
  Calls Tryz.prog 73 #[u9000_, .string a1] w fun e w' => ∃ v0_ : Value, e = .returned (v0_) ∧ Kd.R Kd.string 9 w' w0.heap.size (fun k_ => (P0_ k_ ∨ w.heap.size ≤ k_)) v0_ r ∧ Below w0.heap.size w0 w' ∧ Kept w w' (fun k_ => P0_ k_) := by
 have HO0 := aM_ (show Kd.R Kd.string 9 w w0.heap.size (fun k_ => (P0_ k_ ∨ w.heap.size ≤ k_)) u9000_ l0 from kM_ ho0 (fun k_ hk => (.inl hk)))
 have HK := aM_ (Kept.refl w (fun k_ => P0_ k_))
 have HW0 := aM_ hB.size
 have HB := aM_ hB
 clear hB
 have H : (spec_l2PutB.l0 k l0 a1 0) = some r := h
 clear h
 have H' := aM_ H
 clear H
 go_enter Tryz.func73, Tryz.ntmps73
 go_wp2
 go_loopg [5] k (fun kq v5 w' => ∃ (x5_1 : Int), v5 = .int .i64 x5_1 ∧ Aside0 (spec_l2PutB.l0 kq l0 a1 x5_1 = some r) ∧ Aside0 (kq ≤ k) ∧ Aside0 (Kd.R Kd.string 9 w' w0.heap.size (fun k_ => (P0_ k_ ∨ w.heap.size ≤ k_)) u9000_ l0) ∧ Aside0 (Kept w w' (fun k_ => P0_ k_)) ∧ Aside0 (Below w0.heap.size w0 w'))
 case atStart => exact ⟨(0), (by rfl), H', ⟨Nat.le_refl _⟩, ⟨HO0.out⟩, ⟨by repeat (first | (with_reducible first | exact HK.out | apply Kept.alloc | apply Kept.drewN | apply Kept.drew) | exact HK.out)⟩, ⟨HB.out⟩⟩
 case round =>
  clear H'
  try clear p2
  obtain ⟨x5_1, rfl, HA, HK1, HO_0, HK, HB⟩ := hrel
  cases gk with
  | zero => exact absurd HA.out (by simp [spec_l2PutB.l0])
  | succ k1 =>
   have H := HA.out
   clear HA
   simp only [spec_l2PutB.l0] at H
   by_cases c3 : x5_1 < (l0.length : Int)
   ·
    rw [if_pos c3] at H
    have c3b0 := decide_eq_true c3
    clear c3
    by_cases c4 : 0 ≤ x5_1
    ·
     rw [if_pos c4] at H
     have c4b0 := decide_eq_true c4
     clear c4
     replace H := oB_.mp H
     obtain ⟨t202, A50, H⟩ := H
     try dsimp only at H
     have A5 := aM_ A50
     clear A50
     by_cases c6 : t202 = true
     ·
      subst c6
      rw [if_pos rfl] at H
      have H' := aM_ H
      clear H
      obtain ⟨Ao7, co7, eo7⟩ := kS_ HO_0.out
      subst eo7
      have p201 : 0 ≤ (x5_1 : Int) := of_decide_eq_true (by (with_reducible assumption))
      have q201 : x5_1 < (l0.length : Int) := of_decide_eq_true (by (with_reducible assumption))
      obtain ⟨ad201, e201, hx201_0⟩ := Kd.at_string (kR_ HO_0.out).2.2 x5_1 p201 q201
      cases e201
      replace p201 := eq_true p201
      replace q201 := eq_true q201
      go_wp2_with (first | (go_at_call 90; (with_reducible refine (spec_l2Before.calls k1 (rdOf eB_ l0 x5_1) a1 true _ A5.out).mono ?_); rintro e w' ⟨rfl, ⟨nd, rfl⟩⟩))
      go_roundg k1
      case measure => have := HK1.out; omega
      case rel => exact ⟨(wrap64 (x5_1 + 1)), (by rfl), H', ⟨by have := HK1.out; omega⟩, ⟨by (with_reducible repeat (first | apply k1_ | apply k2_ | apply k3_)); exact HO_0.out⟩, ⟨by repeat (first | (with_reducible first | exact HK.out | apply Kept.alloc | apply Kept.drewN | apply Kept.drew) | exact HK.out)⟩, ⟨by repeat (first | (with_reducible first | exact HB.out | apply bA_ | apply bN_ | apply bD_) | exact HB.out)⟩⟩
     ·
      replace c6 := Bool.eq_false_iff.mpr c6
      subst c6
      have H1 : (if (rdOf eB_ l0 x5_1).toList = a1.toList then (some l0) else (none)) = some r := by rw [if_neg (show ¬ (false = true) by decide)] at H; exact H
      clear H
      have H := H1
      clear H1
      by_cases c8 : (rdOf eB_ l0 x5_1).toList = a1.toList
      ·
       rw [if_pos c8] at H
       have c8b0 : ((rdOf eB_ l0 x5_1).toList == a1.toList) = true := beq_iff_eq.mpr c8
       have c8b1 : ((rdOf eB_ l0 x5_1).toList != a1.toList) = false := bne_eq_false_iff_eq.mpr c8
       clear c8
       obtain rfl := Option.some.inj H
       obtain ⟨Ao9, co9, eo9⟩ := kS_ HO_0.out
       subst eo9
       have p201 : 0 ≤ (x5_1 : Int) := of_decide_eq_true (by (with_reducible assumption))
       have q201 : x5_1 < (l0.length : Int) := of_decide_eq_true (by (with_reducible assumption))
       obtain ⟨ad201, e201, hx201_0⟩ := Kd.at_string (kR_ HO_0.out).2.2 x5_1 p201 q201
       cases e201
       replace p201 := eq_true p201
       replace q201 := eq_true q201
       go_wp2_with (first | (go_at_call 90; (with_reducible refine (spec_l2Before.calls k1 (rdOf eB_ l0 x5_1) a1 false _ A5.out).mono ?_); rintro e w' ⟨rfl, ⟨nd, rfl⟩⟩; have p203 : 0 ≤ (x5_1 : Int) := of_decide_eq_true (by (with_reducible assumption)); have q203 : x5_1 < (l0.length : Int) := of_decide_eq_true (by (with_reducible assumption)); obtain ⟨ad203, e203, hx203_0⟩ := Kd.at_string (kR_ HO_0.out).2.2 x5_1 p203 q203; obtain rfl : ad201 = ad203 := (by injection e203); replace p203 := eq_true p203; replace q203 := eq_true q203))
       go_ret
       exact ⟨_, by rfl, by (with_reducible repeat (first | apply k1_ | apply k2_ | apply k3_)); exact HO_0.out, by repeat (first | (with_reducible first | exact HB.out | apply bA_ | apply bN_ | apply bD_) | exact HB.out), by repeat (first | (with_reducible first | exact HK.out | apply Kept.alloc | apply Kept.drewN | apply Kept.drew) | exact HK.out)⟩
      ·
       rw [if_neg c8] at H
       exact absurd H (by simp)
    ·
     rw [if_neg c4] at H
     exact absurd H (by simp)
   ·
    rw [if_neg c3] at H
    have c3b0 := decide_eq_false c3
    clear c3
    exact absurd H (by simp)
open Go.Proofs.YtfhffcefpnkllaaGreatDoor.M
theorem spec_l2Put.before_loop (a b : Txt) (ha : a.length ≤ 4611686018427387900) : ∀ (d n : Nat), n + d = a.length → n ≤ b.length → Ev (fun k => spec_l2Before.l0 k (B a) (B b) (n : Int)) (decide (a.drop n < b.drop n)) := by
 have last : ∀ n : Nat, (n = a.length ∨ n = b.length) → n ≤ a.length → n ≤ b.length → Ev (fun k => spec_l2Before.j1 k (B a) (B b) (n : Int) false) (decide (a.drop n < b.drop n)) := by
  intro n h ha hb
  refine Ev.step (fun k => spec_l2Before.j1.eq_2 ..) (Ev.ifF (by simp) ?_)
  have : decide (((B a).size : Int) < ((B b).size : Int)) = decide (a.drop n < b.drop n) := by
   simp only [size_B]
   congr 1
   rcases h with rfl | rfl
   ·
    rw [List.drop_length]
    cases hd : b.drop a.length with
    | nil =>
     have : b.length ≤ a.length := by simpa using hd
     simp; omega
    | cons c t =>
     have : a.length < b.length := by
      have := congrArg List.length hd
      simp at this; omega
     simp; omega
   ·
    rw [List.drop_length]
    simp; omega
  rw [this]; exact Ev.now _
 intro d
 induction d with
 | zero =>
  intro n hn hb
  refine Ev.step (fun k => spec_l2Before.l0.eq_2 ..) (Ev.ifF (by simp; omega) ?_)
  exact last n (.inl (by omega)) (by omega) hb
 | succ d ih =>
  intro n hn hb
  have h1 : n < a.length := by omega
  refine Ev.step (fun k => spec_l2Before.l0.eq_2 ..) (Ev.ifT (by simp; omega) ?_)
  by_cases h2 : n < b.length
  ·
   rw [show decide ((n : Int) < ((B b).size : Int)) = true from by simp; omega]
   refine Ev.step (fun k => spec_l2Before.j1.eq_2 ..) (Ev.ifT rfl (Ev.ifT (by omega) (Ev.ifT (by simp; omega) (Ev.ifT (by simp; omega) ?_))))
   simp only [bt_B a n h1, bt_B b n h2]
   rw [drop_cons_getD 0 h1, drop_cons_getD 0 h2]
   by_cases e : ((a.getD n 0).toNat : Int) = ((b.getD n 0).toNat : Int)
   ·
    have e2 : a.getD n 0 = b.getD n 0 := UInt8.toNat_inj.1 (by omega)
    refine Ev.ifT e ?_
    have := ih (n + 1) (by omega) (by omega)
    simp only [e2, List.cons_lt_cons_iff, UInt8.lt_irrefl, true_and, false_or]
    simpa only [wrap64_succ n (by omega)] using this
   ·
    refine Ev.ifF e ?_
    have e2 : a.getD n 0 ≠ b.getD n 0 := fun h => e (by rw [h])
    have : decide (((a.getD n 0).toNat : Int) < ((b.getD n 0).toNat : Int)) = decide (a.getD n 0 :: a.drop (n + 1) < b.getD n 0 :: b.drop (n + 1)) := by
     congr 1
     simp only [List.cons_lt_cons_iff, e2, false_and, or_false, UInt8.lt_iff_toNat_lt, eq_iff_iff]
     omega
    rw [this]; exact Ev.now _
  ·
   rw [show decide ((n : Int) < ((B b).size : Int)) = false from by simp; omega]
   exact last n (.inr (by omega)) (by omega) hb
theorem spec_l2Put.before_ev (a b : Txt) (ha : a.length ≤ 4611686018427387900) : Ev (fun k => spec_l2Before.f k (B a) (B b)) (decide (a < b)) := by
 simpa [spec_l2Before.f] using spec_l2Put.before_loop a b ha a.length 0 (by omega) (by omega)
theorem spec_l2Put.own_eq (l : List ByteArray) (h : l.length < 8796093022208) : spec_l2Own.f l = some l := by
 unfold spec_l2Own.f
 simp only [Option.bind_some, List.length_nil, Nat.zero_add, if_pos h, List.nil_append]
def spec_l2Put.okL (l : List Txt) : Prop := l.length ≤ 4294967296 ∧ ∀ x ∈ l, x.length ≤ 4611686018427387900
theorem spec_l2Put.getD_ok {l : List Txt} (h : spec_l2Put.okL l) (n : Nat) (hn : n < l.length) : (l.getD n []).length ≤ 4611686018427387900 := by
 rw [getD_lt [] hn]; exact h.2 _ (List.getElem_mem hn)
theorem spec_l2Put.rd_map (l : List Txt) (n : Nat) (h : n < l.length) : rdOf eB_ (l.map B) (n : Int) = B (l.getD n []) := by
 simp [rdOf, List.getD_eq_getElem?_getD, h]
theorem spec_l2Put.A_loop (l : List Txt) (w : Txt) (ok : spec_l2Put.okL l) : ∀ (d n : Nat), n + d = l.length → foundL (l.drop n) w = false → Ev (fun k => spec_l2PutA.l0 k (l.map B) (B w) (n : Int)) ((l.take n ++ putL (l.drop n) w).map B) := by
 have hl := ok.1
 have fin : ∀ n, n ≤ l.length → ∀ (g : Nat → Option (List ByteArray)), (∀ k, g k = ((spec_l2Own.f ((l.map B).take (n : Int).toNat)).bind fun t1 => ((some (([B w] : List ByteArray) : List ByteArray)).bind fun y1 => (if t1.length + y1.length < 8796093022208 then ((some (t1 ++ y1 : List ByteArray)).bind fun y2 => (if y2.length + ((l.map B).drop (n : Int).toNat).length < 8796093022208 then (some (y2 ++ ((l.map B).drop (n : Int).toNat))) else (none))) else (none))))) → Ev g ((l.take n ++ w :: l.drop n).map B) := by
  intro n hn g hg
  refine Ev.congr hg ?_
  rw [spec_l2Put.own_eq _ (by simp; omega)]
  simp only [Option.bind_some]
  refine Ev.ifT (by simp; omega) (Ev.ifT (by simp; omega) ?_)
  simpa [List.map_take, List.map_drop] using Ev.now ((l.take n ++ w :: l.drop n).map B)
 intro d
 induction d with
 | zero =>
  intro n hn hf
  refine Ev.step (fun k => spec_l2PutA.l0.eq_2 ..) (Ev.ifF (by simp; omega) (Ev.ifT (by omega) (Ev.ifT (by simp; omega) ?_)))
  rw [show putL (l.drop n) w = w :: l.drop n from by rw [List.drop_of_length_le (by omega)]; rfl]
  exact fin n (by omega) _ (fun _ => rfl)
 | succ d ih =>
  intro n hn hf
  have h1 : n < l.length := by omega
  refine Ev.step (fun k => spec_l2PutA.l0.eq_2 ..) (Ev.ifT (by simp; omega) (Ev.ifT (by omega) ?_))
  simp only [spec_l2Put.rd_map l n h1]
  refine Ev.bind (spec_l2Put.before_ev (l.getD n []) w (spec_l2Put.getD_ok ok n h1)) ?_
  rw [drop_cons_getD [] h1] at hf ⊢
  by_cases hlt : l.getD n [] < w
  ·
   simp only [foundL, if_pos hlt] at hf
   refine Ev.ifT (by simpa using hlt) ?_
   have := ih (n + 1) (by omega) hf
   rw [take_succ_getD [] h1] at this
   simpa only [wrap64_succ n (by omega), putL, if_pos hlt, List.append_assoc, List.singleton_append] using this
  ·
   simp only [foundL, if_neg hlt, decide_eq_false_iff_not] at hf
   refine Ev.ifF (by simpa using hlt) (Ev.ifF (by simpa using hf) (Ev.ifT (by simp; omega) ?_))
   rw [show putL (l.getD n [] :: l.drop (n + 1)) w = w :: l.drop n from by rw [drop_cons_getD [] h1]; simp only [putL, if_neg hlt, if_neg hf]]
   exact fin n (by omega) _ (fun _ => rfl)
theorem spec_l2Put.B_loop (l : List Txt) (w : Txt) (ok : spec_l2Put.okL l) : ∀ (d n : Nat), n + d = l.length → foundL (l.drop n) w = true → Ev (fun k => spec_l2PutB.l0 k (l.map B) (B w) (n : Int)) (l.map B) := by
 have hl := ok.1
 intro d
 induction d with
 | zero => intro n hn hf; rw [List.drop_of_length_le (by omega)] at hf; simp [foundL] at hf
 | succ d ih =>
  intro n hn hf
  have h1 : n < l.length := by omega
  refine Ev.step (fun k => spec_l2PutB.l0.eq_2 ..) (Ev.ifT (by simp; omega) (Ev.ifT (by omega) ?_))
  simp only [spec_l2Put.rd_map l n h1]
  refine Ev.bind (spec_l2Put.before_ev (l.getD n []) w (spec_l2Put.getD_ok ok n h1)) ?_
  rw [drop_cons_getD [] h1] at hf
  by_cases hlt : l.getD n [] < w
  ·
   simp only [foundL, if_pos hlt] at hf
   refine Ev.ifT (by simpa using hlt) ?_
   simpa only [wrap64_succ n (by omega)] using ih (n + 1) (by omega) hf
  ·
   simp only [foundL, if_neg hlt, decide_eq_true_eq] at hf
   exact Ev.ifF (by simpa using hlt) (Ev.ifT (by simpa using hf) (Ev.now _))
def spec_l2Put.f (l0 : List ByteArray) (a1 : ByteArray) : Option (List ByteArray) := if l0.length ≤ 4294967296 ∧ (l0.all fun x => decide (x.size ≤ 4611686018427387900)) = true then some ((putL (l0.map fun x => x.data.toList) a1.data.toList).map B) else none
theorem spec_l2Put.calls (P0_ : Nat → Prop) (u9000_ : Value) (l0 : List ByteArray) (a1 : ByteArray) (r : List ByteArray) (w0 w : World) (hB : Below w0.heap.size w0 w) (ho0 : Kd.R Kd.string 9 w w0.heap.size P0_ u9000_ l0) (h : spec_l2Put.f l0 a1 = some r) :
  Calls Tryz.prog 73 #[u9000_, .string a1] w fun e w' => ∃ v0_ : Value, e = .returned (v0_) ∧ Kd.R Kd.string 9 w' w0.heap.size (fun k_ => (P0_ k_ ∨ w.heap.size ≤ k_)) v0_ r ∧ Below w0.heap.size w0 w' ∧ Kept w w' (fun k_ => P0_ k_) := by
 unfold spec_l2Put.f at h
 by_cases hc : l0.length ≤ 4294967296 ∧ (l0.all fun x => decide (x.size ≤ 4611686018427387900)) = true
 rotate_left
 ·
  rw [if_neg hc] at h; cases h
 rw [if_pos hc] at h
 obtain ⟨l, hl⟩ : ∃ l, l = l0.map fun x => x.data.toList := ⟨_, rfl⟩
 have e0 : l0 = l.map B := by
  rw [hl, List.map_map]
  conv => lhs; rw [← List.map_id l0]
  exact List.map_congr_left fun x _ => (B_data x).symm
 have e1 : a1 = B a1.data.toList := (B_data a1).symm
 have ok : spec_l2Put.okL l := by
  refine ⟨by rw [hl]; simpa using hc.1, fun x hx => ?_⟩
  rw [hl] at hx
  obtain ⟨y, hy, rfl⟩ := List.mem_map.1 hx
  have := List.all_eq_true.1 hc.2 y hy
  simpa using this
 rw [← hl] at h
 have hr := Option.some.inj h
 cases hf : foundL l a1.data.toList with
 | true =>
  obtain ⟨k, hk⟩ := Ev.rounds (spec_l2Put.B_loop l a1.data.toList ok l.length 0 (by omega) (by simpa using hf))
  refine spec_l2PutB.calls k P0_ u9000_ l0 a1 r w0 w hB ho0 ?_
  rw [← hr, putL_found l _ hf, e0, e1]
  unfold spec_l2PutB.f
  simpa using hk
 | false =>
  obtain ⟨k, hk⟩ := Ev.rounds (spec_l2Put.A_loop l a1.data.toList ok l.length 0 (by omega) (by simpa using hf))
  obtain ⟨A, c, rfl, hlc, hC⟩ := Kd.R_reads ho0
  refine (spec_l2PutA.calls k A c l0 a1 r w hC hlc ?_).mono ?_
  ·
   rw [← hr, e0, e1]
   unfold spec_l2PutA.f
   simpa using hk
  ·
   rintro e w' ⟨v, rfl, hR, hb⟩
   exact ⟨v, rfl, k5_ (kM_ (Kd.R_bound hR) (fun k hk => .inr hk.2.1)) hB.size, hB.trans (hb.mono hB.size), Kept.of_below hb _⟩
def spec_l2Set.l0 : Nat → List ByteArray → List ByteArray → Int → Option (List ByteArray × Bool)
 | 0, _, _, _ => none
 | k + 1, x0, x4, x5 => if x5 < (x0.length : Int) then (if 0 ≤ x5 then ((spec_l2Word.f k (rdOf eB_ x0 x5)).bind fun t208 => (if t208 = true then ((spec_l2Put.f x4 (rdOf eB_ x0 x5)).bind fun t210 => (spec_l2Set.l0 k x0 t210 (wrap64 (x5 + 1)))) else (some ((([] : List ByteArray)), false)))) else (none)) else (some (x4, decide ((x4.length : Int) ≤ 40)))
def spec_l2Set.f (k : Nat) (l0 : List ByteArray) : Option (List ByteArray × Bool) := spec_l2Set.l0 k l0 (([] : List ByteArray)) 0
theorem spec_l2Set.mono_l : ∀ k, (∀ y0 y1 y2, LeO (spec_l2Set.l0 k y0 y1 y2) (spec_l2Set.l0 (k + 1) y0 y1 y2))
 | 0 => fun _ _ _ r h => by simp [spec_l2Set.l0] at h
 | k + 1 => by
  have ih0 := spec_l2Set.mono_l k
  ·
   intro y0 y1 y2
   unfold spec_l2Set.l0
   repeat' first
   | (with_reducible exact ih0 _ _ _)
   | (with_reducible exact spec_l2Word.mono _ _)
   | (with_reducible exact l3_ _)
   | (with_reducible exact l0_ _)
   | (with_reducible refine l2_ ?_ ?_)
   | (with_reducible refine l1_ ?_ (fun _ => ?_))
   | exact ih0 _ _ _
   | exact spec_l2Word.mono _ _
   | exact l0_ _
   | refine l2_ ?_ ?_
   | refine l1_ ?_ (fun _ => ?_)
theorem spec_l2Set.mono : ∀ a0 k, LeO (spec_l2Set.f k a0) (spec_l2Set.f (k + 1) a0) := by
 intro a0 k
 have ih0 := spec_l2Set.mono_l k
 unfold spec_l2Set.f
 repeat' first
   | (with_reducible exact ih0 _ _ _)
   | (with_reducible exact spec_l2Word.mono _ _)
   | (with_reducible exact l3_ _)
   | (with_reducible exact l0_ _)
   | (with_reducible refine l2_ ?_ ?_)
   | (with_reducible refine l1_ ?_ (fun _ => ?_))
   | exact ih0 _ _ _
   | exact spec_l2Word.mono _ _
   | exact l0_ _
   | refine l2_ ?_ ?_
   | refine l1_ ?_ (fun _ => ?_)
theorem spec_l2Set.calls (k : Nat) (A0 : Option Addr) (c0 : Nat) (l0 : List ByteArray) (r1 : List ByteArray) (r2 : Bool) (w : World) (hr0 : Kd.C Kd.string w A0 l0.length l0) (hc0 : l0.length ≤ c0) (h : spec_l2Set.f k l0 = some (r1, r2)) :
  Calls Tryz.prog 55 #[.slice A0 l0.length c0] w fun e w' => ∃ v0_ : Value, e = .returned (.tuple #[v0_, .bool r2]) ∧ Kd.R Kd.string 9 w' w.heap.size (fun _ => True) v0_ r1 ∧ Below w.heap.size w w' := by
 have HR0 := aM_ hr0
 have HC0 := aM_ hc0
 clear hr0 hc0
 have HB := aM_ (Below.refl w.heap.size w)
 have H : (spec_l2Set.l0 k l0 (([] : List ByteArray)) 0) = some (r1, r2) := h
 clear h
 obtain ⟨y204, hy204⟩ : ∃ y_ : List ByteArray, y_ = (([] : List ByteArray)) := ⟨_, rfl⟩
 replace H : (spec_l2Set.l0 k l0 y204 0) = some (r1, r2) := by first | (rw [hy204]; with_reducible exact H) | (have H2_ := (Option.bind_some _ _).symm.trans H; rw [hy204]; with_reducible exact H2_) | (have H2_ := (Option.bind_some _ _).symm.trans H; with_reducible exact H2_) | with_reducible exact H | (rw [hy204]; exact H) | exact H
 have Ny204 := aM_ hy204
 clear hy204
 have H' := aM_ H
 clear H
 go_enter Tryz.func55, Tryz.ntmps55
 go_wp2_with (first | ((with_reducible refine gD_ (N := 6) rfl ?_); refine Kd.R_lit Kd.string _ 9 ?hg (N := 6) ?hd (xs := ([] : List ByteArray)) (inner := []) (ok := fun _ => True) (okp := fun _ => True) ?hr ?hp (fun _ hk => hk) trivial (Below.refl _ _) (Nat.le_refl _) (by simp) ?_; (case hd => rfl); (case hg => rfl); (case hr => (go_simp; done)); (case hp => exact (Reps.none _ _)); intro v205 w2 ho3 hb hg_ hnew_; clear hg_ hnew_; (rw [← Ny204.out] at ho3); have HO206 := aM_ (k5_ ho3 (bZ_ HB.out)); replace HB := aM_ (bT_ HB.out hb); clear hb ho3))
 go_loopg [4, 5] k (fun kq v4 v5 w' => ∃ (x4_1 : List ByteArray) (x5_1 : Int), v5 = .int .i64 x5_1 ∧ Aside0 (spec_l2Set.l0 kq l0 x4_1 x5_1 = some (r1, r2)) ∧ Aside0 (kq ≤ k) ∧ Aside0 (Kd.R Kd.string 9 w' w.heap.size (fun _ => True) v4 x4_1) ∧ Aside0 (Below w.heap.size w w'))
 case atStart => exact ⟨(y204), (0), (by rfl), H', ⟨Nat.le_refl _⟩, ⟨HO206.out⟩, ⟨HB.out⟩⟩
 case round =>
  clear H'
  try clear p2
  obtain ⟨x4_1, x5_1, rfl, HA, HK1, HO_4, HB⟩ := hrel
  cases gk with
  | zero => exact absurd HA.out (by simp [spec_l2Set.l0])
  | succ k1 =>
   have H := HA.out
   clear HA
   simp only [spec_l2Set.l0] at H
   by_cases c4 : x5_1 < (l0.length : Int)
   ·
    rw [if_pos c4] at H
    have c4b0 := decide_eq_true c4
    clear c4
    by_cases c5 : 0 ≤ x5_1
    ·
     rw [if_pos c5] at H
     have c5b0 := decide_eq_true c5
     clear c5
     replace H := oB_.mp H
     obtain ⟨t208, A60, H⟩ := H
     try dsimp only at H
     have A6 := aM_ A60
     clear A60
     by_cases c7 : t208 = true
     ·
      subst c7
      rw [if_pos rfl] at H
      replace H := oB_.mp H
      obtain ⟨t210, A80, H⟩ := H
      try dsimp only at H
      have A8 := aM_ A80
      clear A80
      have H' := aM_ H
      clear H
      have p207 : 0 ≤ (x5_1 : Int) := of_decide_eq_true (by (with_reducible assumption))
      have q207 : x5_1 < (l0.length : Int) := of_decide_eq_true (by (with_reducible assumption))
      obtain ⟨ad207, e207, hx207_0⟩ := Kd.at_string HR0.out x5_1 p207 q207
      cases e207
      replace hx207_0 := (HB.out.cell (wB_ w _ hx207_0)).trans hx207_0
      replace p207 := eq_true p207
      replace q207 := eq_true q207
      go_wp2_with (first | ((with_reducible refine gC_ (f := 59) rfl ?_); refine goesL_ (some 17) rfl rfl Tryz.func59 (by kernel_rfl) rfl #[.string (rdOf eB_ l0 x5_1)] rfl (by (try simp only [sD_, sE_, sF_]); rfl) ?_; (with_reducible refine (spec_l2Word.calls k1 (rdOf eB_ l0 x5_1) true _ A6.out).mono ?_); rintro e w' ⟨rfl, ⟨nd, rfl⟩⟩; refine ⟨_, rfl, ?_⟩; have p209 : 0 ≤ (x5_1 : Int) := of_decide_eq_true (by (with_reducible assumption)); have q209 : x5_1 < (l0.length : Int) := of_decide_eq_true (by (with_reducible assumption)); obtain ⟨ad209, e209, hx209_0⟩ := Kd.at_string HR0.out x5_1 p209 q209; obtain rfl : ad207 = ad209 := (by injection e209); replace hx209_0 := (HB.out.cell (wB_ w _ hx209_0)).trans hx209_0; replace p209 := eq_true p209; replace q209 := eq_true q209; obtain ⟨Ao9, co9, eo9⟩ := kS_ HO_4.out; subst eo9) | ((with_reducible refine gC_ (f := 73) rfl ?_); refine goesL_ (some 25) rfl rfl Tryz.func73 (by kernel_rfl) rfl #[.slice Ao9 x4_1.length co9, .string (rdOf eB_ l0 x5_1)] rfl (by (try simp only [sD_, sE_, sF_]); rfl) ?_; (with_reducible refine (spec_l2Put.calls (fun k_ => some k_ = (.slice Ao9 x4_1.length co9 : Value).ownBlock) (.slice Ao9 x4_1.length co9) x4_1 (rdOf eB_ l0 x5_1) t210 w _ ?side1 ?side2 A8.out).mono ?_); (case side1 => repeat (first | (with_reducible first | exact HB.out | apply bA_ | apply bN_ | apply bD_) | exact HB.out)); (case side2 => exact Kd.R_tight rfl HO_4.out); rintro e w10 ⟨v211, rfl, ho0, hb, hkp⟩; refine ⟨_, rfl, ?_⟩; have n0_ := aM_ (kM_ (ok' := fun k_ => True) ho0 (fun k_ hk_ => trivial)); have n1_ := aM_ (hb); clear HB; clear HO_4; have HO212 := n0_; have HB := n1_; clear n0_ n1_; (try clear hb); (try clear hkp); (try clear ho0)))
      go_roundg k1
      case measure => have := HK1.out; omega
      case rel => exact ⟨(t210), (wrap64 (x5_1 + 1)), (by rfl), H', ⟨by have := HK1.out; omega⟩, ⟨HO212.out⟩, ⟨HB.out⟩⟩
     ·
      replace c7 := Bool.eq_false_iff.mpr c7
      subst c7
      have H1 : (some ((([] : List ByteArray)), false)) = some (r1, r2) := by rw [if_neg (show ¬ (false = true) by decide)] at H; exact H
      clear H
      have H := H1
      clear H1
      obtain ⟨y213, hy213⟩ : ∃ y_ : List ByteArray, y_ = (([] : List ByteArray)) := ⟨_, rfl⟩
      replace H : (some (y213, false)) = some (r1, r2) := by first | (rw [hy213]; with_reducible exact H) | (have H2_ := (Option.bind_some _ _).symm.trans H; rw [hy213]; with_reducible exact H2_) | (have H2_ := (Option.bind_some _ _).symm.trans H; with_reducible exact H2_) | with_reducible exact H | (rw [hy213]; exact H) | exact H
      have Ny213 := aM_ hy213
      clear hy213
      simp only [Option.some.injEq, Prod.mk.injEq] at H
      obtain ⟨rfl, rfl⟩ := H
      have p207 : 0 ≤ (x5_1 : Int) := of_decide_eq_true (by (with_reducible assumption))
      have q207 : x5_1 < (l0.length : Int) := of_decide_eq_true (by (with_reducible assumption))
      obtain ⟨ad207, e207, hx207_0⟩ := Kd.at_string HR0.out x5_1 p207 q207
      cases e207
      replace hx207_0 := (HB.out.cell (wB_ w _ hx207_0)).trans hx207_0
      replace p207 := eq_true p207
      replace q207 := eq_true q207
      go_wp2_with (first | ((with_reducible refine gC_ (f := 59) rfl ?_); refine goesL_ (some 17) rfl rfl Tryz.func59 (by kernel_rfl) rfl #[.string (rdOf eB_ l0 x5_1)] rfl (by (try simp only [sD_, sE_, sF_]); rfl) ?_; (with_reducible refine (spec_l2Word.calls k1 (rdOf eB_ l0 x5_1) false _ A6.out).mono ?_); rintro e w' ⟨rfl, ⟨nd, rfl⟩⟩; refine ⟨_, rfl, ?_⟩) | ((with_reducible refine gD_ (N := 19) rfl ?_); refine Kd.R_lit Kd.string _ 9 ?hg (N := 19) ?hd (xs := ([] : List ByteArray)) (inner := []) (ok := fun _ => True) (okp := fun _ => True) ?hr ?hp (fun _ hk => hk) trivial (Below.refl _ _) (Nat.le_refl _) (by simp) ?_; (case hd => rfl); (case hg => rfl); (case hr => (go_simp; done)); (case hp => exact (Reps.none _ _)); intro v214 w11 ho12 hb hg_ hnew_; clear hg_ hnew_; (rw [← Ny213.out] at ho12); have HO215 := aM_ (k5_ (Kd.R_new' ho12 (Kd.R_lt (by (with_reducible repeat (first | apply k1_ | apply k2_ | apply k3_)); exact HO_4.out))) (bZ_ (by repeat (first | (with_reducible first | exact HB.out | apply bA_ | apply bN_ | apply bD_) | exact HB.out)))); replace HO_4 := aM_ (Kd.R_elder' (by (with_reducible repeat (first | apply k1_ | apply k2_ | apply k3_)); exact HO_4.out) (Kd.R_base ho12) hb); replace HB := aM_ (bT_ (by repeat (first | (with_reducible first | exact HB.out | apply bA_ | apply bN_ | apply bD_) | exact HB.out)) hb); clear hb ho12))
      go_ret2
      exact ⟨_, by rfl, by exact kM_ HO215.out (fun _ hk => trivial), by exact HB.out⟩
    ·
     rw [if_neg c5] at H
     exact absurd H (by simp)
   ·
    rw [if_neg c4] at H
    have c4b0 := decide_eq_false c4
    clear c4
    simp only [Option.some.injEq, Prod.mk.injEq] at H
    obtain ⟨rfl, rfl⟩ := H
    obtain ⟨Ao13, co13, eo13⟩ := kS_ HO_4.out
    subst eo13
    go_wp2
    go_ret2
    exact ⟨_, by rfl, by exact HO_4.out, by exact HB.out⟩
mutual
def spec_l2Of.l0 : Nat → List ByteArray → List ByteArray → Int → Option ((List (S76)))
 | 0, _, _, _ => none
 | k + 1, x0, x3, x4 => if x4 < (x0.length : Int) then (spec_l2Of.l1 k x0 x3 x4 1) else (spec_l2Of.l2 k x0 x3 0 (([] : List (S76))))
def spec_l2Of.l1 : Nat → List ByteArray → List ByteArray → Int → Int → Option ((List (S76)))
 | 0, _, _, _, _ => none
 | k + 1, x0, x3, x4, x5 => if 0 ≤ x4 then (if x4 < (x0.length : Int) then (if x5 ≤ ((rdOf eB_ x0 x4).size : Int) then (if 0 ≤ x5 then ((spec_l2Put.f x3 ((rdOf eB_ x0 x4).extract 0 (x5 : Int).toNat)).bind fun t224 => (spec_l2Of.l1 k x0 t224 x4 (wrap64 (x5 + 1)))) else (none)) else (spec_l2Of.l0 k x0 x3 (wrap64 (x4 + 1)))) else (none)) else (none)
def spec_l2Of.l2 : Nat → List ByteArray → List ByteArray → Int → List (S76) → Option ((List (S76)))
 | 0, _, _, _, _ => none
 | k + 1, x0, x3, x7, x231000 => if x7 < (x3.length : Int) then (if 0 ≤ x7 then ((spec_l2Has.f k x0 (rdOf eB_ x3 x7)).bind fun t232 => (if x7 > 0 then (if 0 ≤ (wrap64 (((rdOf eB_ x3 x7).size : Int) - 1)) then (if (wrap64 (((rdOf eB_ x3 x7).size : Int) - 1)) < ((rdOf eB_ x3 x7).size : Int) then (if (wrap64 (((rdOf eB_ x3 x7).size : Int) - 1)) ≤ ((rdOf eB_ x3 x7).size : Int) then ((spec_l2Place.f k x3 ((rdOf eB_ x3 x7).extract 0 ((wrap64 (((rdOf eB_ x3 x7).size : Int) - 1)) : Int).toNat)).bind fun t234 => (if x231000.length < 5864062014805 then (spec_l2Of.l2 k x0 x3 (wrap64 (x7 + 1)) (x231000 ++ [(⟨((bt (rdOf eB_ x3 x7) (wrap64 (((rdOf eB_ x3 x7).size : Int) - 1))) - 97) % 256, t234, t232⟩ : S76)])) else (none))) else (none)) else (none)) else (none)) else (if x231000.length < 5864062014805 then (spec_l2Of.l2 k x0 x3 (wrap64 (x7 + 1)) (x231000 ++ [(⟨(-1), (-1), t232⟩ : S76)])) else (none)))) else (none)) else (some x231000)
end
def spec_l2Of.f (k : Nat) (l0 : List ByteArray) : Option ((List (S76))) := spec_l2Of.l0 k l0 (([(⟨#[]⟩ : ByteArray)] : List ByteArray)) 0
theorem spec_l2Of.mono_l : ∀ k, (∀ y0 y1 y2, LeO (spec_l2Of.l0 k y0 y1 y2) (spec_l2Of.l0 (k + 1) y0 y1 y2)) ∧ (∀ y0 y1 y2 y3, LeO (spec_l2Of.l1 k y0 y1 y2 y3) (spec_l2Of.l1 (k + 1) y0 y1 y2 y3)) ∧ (∀ y0 y1 y2 y3, LeO (spec_l2Of.l2 k y0 y1 y2 y3) (spec_l2Of.l2 (k + 1) y0 y1 y2 y3))
 | 0 => ⟨fun _ _ _ r h => by simp [spec_l2Of.l0] at h, fun _ _ _ _ r h => by simp [spec_l2Of.l1] at h, fun _ _ _ _ r h => by simp [spec_l2Of.l2] at h⟩
 | k + 1 => by
  obtain ⟨ih0, ih1, ih2⟩ := spec_l2Of.mono_l k
  refine ⟨?_, ?_, ?_⟩
  ·
   intro y0 y1 y2
   unfold spec_l2Of.l0
   repeat' first
   | (with_reducible exact ih0 _ _ _)
   | (with_reducible exact ih1 _ _ _ _)
   | (with_reducible exact ih2 _ _ _ _)
   | (with_reducible exact spec_l2Has.mono _ _ _)
   | (with_reducible exact spec_l2Place.mono _ _ _)
   | (with_reducible exact l3_ _)
   | (with_reducible exact l0_ _)
   | (with_reducible refine l2_ ?_ ?_)
   | (with_reducible refine l1_ ?_ (fun _ => ?_))
   | exact ih0 _ _ _
   | exact ih1 _ _ _ _
   | exact ih2 _ _ _ _
   | exact spec_l2Has.mono _ _ _
   | exact spec_l2Place.mono _ _ _
   | exact l0_ _
   | refine l2_ ?_ ?_
   | refine l1_ ?_ (fun _ => ?_)
  ·
   intro y0 y1 y2 y3
   unfold spec_l2Of.l1
   repeat' first
   | (with_reducible exact ih0 _ _ _)
   | (with_reducible exact ih1 _ _ _ _)
   | (with_reducible exact ih2 _ _ _ _)
   | (with_reducible exact spec_l2Has.mono _ _ _)
   | (with_reducible exact spec_l2Place.mono _ _ _)
   | (with_reducible exact l3_ _)
   | (with_reducible exact l0_ _)
   | (with_reducible refine l2_ ?_ ?_)
   | (with_reducible refine l1_ ?_ (fun _ => ?_))
   | exact ih0 _ _ _
   | exact ih1 _ _ _ _
   | exact ih2 _ _ _ _
   | exact spec_l2Has.mono _ _ _
   | exact spec_l2Place.mono _ _ _
   | exact l0_ _
   | refine l2_ ?_ ?_
   | refine l1_ ?_ (fun _ => ?_)
  ·
   intro y0 y1 y2 y3
   unfold spec_l2Of.l2
   repeat' first
   | (with_reducible exact ih0 _ _ _)
   | (with_reducible exact ih1 _ _ _ _)
   | (with_reducible exact ih2 _ _ _ _)
   | (with_reducible exact spec_l2Has.mono _ _ _)
   | (with_reducible exact spec_l2Place.mono _ _ _)
   | (with_reducible exact l3_ _)
   | (with_reducible exact l0_ _)
   | (with_reducible refine l2_ ?_ ?_)
   | (with_reducible refine l1_ ?_ (fun _ => ?_))
   | exact ih0 _ _ _
   | exact ih1 _ _ _ _
   | exact ih2 _ _ _ _
   | exact spec_l2Has.mono _ _ _
   | exact spec_l2Place.mono _ _ _
   | exact l0_ _
   | refine l2_ ?_ ?_
   | refine l1_ ?_ (fun _ => ?_)
theorem spec_l2Of.mono : ∀ a0 k, LeO (spec_l2Of.f k a0) (spec_l2Of.f (k + 1) a0) := by
 intro a0 k
 obtain ⟨ih0, ih1, ih2⟩ := spec_l2Of.mono_l k
 unfold spec_l2Of.f
 repeat' first
   | (with_reducible exact ih0 _ _ _)
   | (with_reducible exact ih1 _ _ _ _)
   | (with_reducible exact ih2 _ _ _ _)
   | (with_reducible exact spec_l2Has.mono _ _ _)
   | (with_reducible exact spec_l2Place.mono _ _ _)
   | (with_reducible exact l3_ _)
   | (with_reducible exact l0_ _)
   | (with_reducible refine l2_ ?_ ?_)
   | (with_reducible refine l1_ ?_ (fun _ => ?_))
   | exact ih0 _ _ _
   | exact ih1 _ _ _ _
   | exact ih2 _ _ _ _
   | exact spec_l2Has.mono _ _ _
   | exact spec_l2Place.mono _ _ _
   | exact l0_ _
   | refine l2_ ?_ ?_
   | refine l1_ ?_ (fun _ => ?_)
theorem spec_l2Of.calls (k : Nat) (A0 : Option Addr) (c0 : Nat) (l0 : List ByteArray) (r : List (S76)) (w : World) (hr0 : Kd.C Kd.string w A0 l0.length l0) (hc0 : l0.length ≤ c0) (h : spec_l2Of.f k l0 = some r) :
  Calls Tryz.prog 56 #[.slice A0 l0.length c0] w fun e w' => ∃ v0_ : Value, e = .returned (.agg #[v0_]) ∧ Kd.R k76 76 w' w.heap.size (fun _ => True) v0_ r ∧ Below w.heap.size w w' := by
 have hu36 := Tryz.underlying36
 have hu76 := Tryz.underlying76
 have HR0 := aM_ hr0
 have HC0 := aM_ hc0
 clear hr0 hc0
 have HB := aM_ (Below.refl w.heap.size w)
 have H : (spec_l2Of.l0 k l0 (([(⟨#[]⟩ : ByteArray)] : List ByteArray)) 0) = some r := h
 clear h
 obtain ⟨y219, hy219⟩ : ∃ y_ : List ByteArray, y_ = (([(⟨#[]⟩ : ByteArray)] : List ByteArray)) := ⟨_, rfl⟩
 replace H : (spec_l2Of.l0 k l0 y219 0) = some r := by first | (rw [hy219]; with_reducible exact H) | (have H2_ := (Option.bind_some _ _).symm.trans H; rw [hy219]; with_reducible exact H2_) | (have H2_ := (Option.bind_some _ _).symm.trans H; with_reducible exact H2_) | with_reducible exact H | (rw [hy219]; exact H) | exact H
 have Ny219 := aM_ hy219
 clear hy219
 have H' := aM_ H
 clear H
 go_enter Tryz.func56, Tryz.ntmps56
 go_wp2_with (first | ((with_reducible refine gD_ (N := 2) rfl ?_); refine bE_ ?hg (N := 2) ?hd (cs := #[.slice none 0 0]) (t := 36) ?hr ?_; (case hd => rfl); (case hg => rfl); (case hr => (go_simp; done)); intro gb218 hg w2 hbox hb; have BK218 := aM_ (hbox); have GW218 := aM_ ((by rw [hg]; exact (bZ_ HB.out) : w.heap.size ≤ gb218)); have GE218 := GW218; replace HB := aM_ (bT_ HB.out hb); clear hb hbox hg) | ((with_reducible refine gD_ (N := 10) rfl ?_); refine Kd.R_lit Kd.string _ 9 ?hg (N := 10) ?hd (xs := ([(⟨#[]⟩ : ByteArray)] : List ByteArray)) (inner := [.string (⟨#[]⟩ : ByteArray)]) (ok := fun _ => True) (okp := fun _ => True) ?hr ?hp (fun _ hk => hk) trivial (Below.refl _ _) (Nat.le_refl _) (by simp) ?_; (case hd => rfl); (case hg => rfl); (case hr => (go_simp; done)); (case hp => exact (Reps.one (show Kd.M Kd.string _ _ _ (⟨#[]⟩ : ByteArray) [.string (⟨#[]⟩ : ByteArray)] from rfl) (Reps.none _ _))); intro v220 w3 ho4 hb hg_ hnew_; clear hg_ hnew_; (rw [← Ny219.out] at ho4); have HO221 := aM_ (k5_ ho4 (bZ_ HB.out)); replace BK218 := aM_ (bB_ BK218.out hb); replace HB := aM_ (bT_ HB.out hb); clear hb ho4))
 go_loopg [3, 4] k (fun kq v3 v4 w' => ∃ (x3_1 : List ByteArray) (x4_1 : Int), v4 = .int .i64 x4_1 ∧ Aside0 (spec_l2Of.l0 kq l0 x3_1 x4_1 = some r) ∧ Aside0 (kq ≤ k) ∧ Aside0 (Kd.R Kd.string 9 w' w.heap.size (fun _ => True) v3 x3_1) ∧ Aside0 (w'.heap[gb218]? = some (.cells #[(.slice none 0 0)] 36 (0, 0))) ∧ Aside0 (Below w.heap.size w w'))
 case atStart => exact ⟨(y219), (0), (by rfl), H', ⟨Nat.le_refl _⟩, ⟨HO221.out⟩, ⟨BK218.out⟩, ⟨HB.out⟩⟩
 case round =>
  clear H'
  try clear p2
  obtain ⟨x3_1, x4_1, rfl, HA, HK1, HO_3, BK218, HB⟩ := hrel
  cases gk with
  | zero => exact absurd HA.out (by simp [spec_l2Of.l0])
  | succ k1 =>
   have H := HA.out
   clear HA
   simp only [spec_l2Of.l0] at H
   by_cases c5 : x4_1 < (l0.length : Int)
   ·
    rw [if_pos c5] at H
    have c5b0 := decide_eq_true c5
    clear c5
    have H' := aM_ H
    clear H
    go_wp2
    go_loopg [3, 5] k1 (fun kq v3 v5 w' => ∃ (x3_2 : List ByteArray) (x5_2 : Int), v5 = .int .i64 x5_2 ∧ Aside0 (spec_l2Of.l1 kq l0 x3_2 x4_1 x5_2 = some r) ∧ Aside0 (kq ≤ k1) ∧ Aside0 (Kd.R Kd.string 9 w' w.heap.size (fun _ => True) v3 x3_2) ∧ Aside0 (w'.heap[gb218]? = some (.cells #[(.slice none 0 0)] 36 (0, 0))) ∧ Aside0 (Below w.heap.size w w'))
    case atStart => exact ⟨(x3_1), (1), (by rfl), H', ⟨Nat.le_refl _⟩, ⟨HO_3.out⟩, ⟨BK218.out⟩, ⟨HB.out⟩⟩
    case round =>
     clear H'
     try clear p2
     try clear c5b0
     try clear p2
     obtain ⟨x3_2, x5_2, rfl, HA, HK2, HO_3, BK218, HB⟩ := hrel
     cases gk with
     | zero => exact absurd HA.out (by simp [spec_l2Of.l1])
     | succ k2 =>
      have H := HA.out
      clear HA
      simp only [spec_l2Of.l1] at H
      by_cases c6 : 0 ≤ x4_1
      ·
       rw [if_pos c6] at H
       have c6b0 := decide_eq_true c6
       clear c6
       by_cases c7 : x4_1 < (l0.length : Int)
       ·
        rw [if_pos c7] at H
        have c7b0 := decide_eq_true c7
        clear c7
        by_cases c8 : x5_2 ≤ ((rdOf eB_ l0 x4_1).size : Int)
        ·
         rw [if_pos c8] at H
         have c8b0 := decide_eq_true c8
         clear c8
         by_cases c9 : 0 ≤ x5_2
         ·
          rw [if_pos c9] at H
          have c9b0 := eq_true c9
          have c9b1 := decide_eq_true c9
          clear c9
          have c10b0 := eq_true (of_decide_eq_true (by (with_reducible assumption)) : x5_2 ≤ ((rdOf eB_ l0 x4_1).size : Int))
          replace H := oB_.mp H
          obtain ⟨t224, A110, H⟩ := H
          try dsimp only at H
          have A11 := aM_ A110
          clear A110
          have H' := aM_ H
          clear H
          have p222 : 0 ≤ (x4_1 : Int) := of_decide_eq_true (by (with_reducible assumption))
          have q222 : x4_1 < (l0.length : Int) := of_decide_eq_true (by (with_reducible assumption))
          obtain ⟨ad222, e222, hx222_0⟩ := Kd.at_string HR0.out x4_1 p222 q222
          cases e222
          replace hx222_0 := (HB.out.cell (wB_ w _ hx222_0)).trans hx222_0
          replace p222 := eq_true p222
          replace q222 := eq_true q222
          have p223 : 0 ≤ (x4_1 : Int) := of_decide_eq_true (by (with_reducible assumption))
          have q223 : x4_1 < (l0.length : Int) := of_decide_eq_true (by (with_reducible assumption))
          obtain ⟨ad223, e223, hx223_0⟩ := Kd.at_string HR0.out x4_1 p223 q223
          obtain rfl : ad222 = ad223 := (by injection e223)
          replace hx223_0 := (HB.out.cell (wB_ w _ hx223_0)).trans hx223_0
          replace p223 := eq_true p223
          replace q223 := eq_true q223
          obtain ⟨Ao12, co12, eo12⟩ := kS_ HO_3.out
          subst eo12
          go_wp2_with (first | ((with_reducible refine gC_ (f := 73) rfl ?_); refine goesL_ (some 33) rfl rfl Tryz.func73 (by kernel_rfl) rfl #[.slice Ao12 x3_2.length co12, .string ((rdOf eB_ l0 x4_1).extract 0 (x5_2 : Int).toNat)] rfl (by (try simp only [sD_, sE_, sF_]); rfl) ?_; (with_reducible refine (spec_l2Put.calls (fun k_ => some k_ = (.slice Ao12 x3_2.length co12 : Value).ownBlock) (.slice Ao12 x3_2.length co12) x3_2 ((rdOf eB_ l0 x4_1).extract 0 (x5_2 : Int).toNat) t224 w _ ?side1 ?side2 A11.out).mono ?_); (case side1 => exact HB.out); (case side2 => exact Kd.R_tight rfl HO_3.out); rintro e w13 ⟨v225, rfl, ho0, hb, hkp⟩; refine ⟨_, rfl, ?_⟩; have n0_ := aM_ (blk_kept BK218.out hkp (fun hs_ => (fun e_ => (k6_ HO_3.out BK218.out (by decide)) e_) hs_)); have n1_ := aM_ (kM_ (ok' := fun k_ => True) ho0 (fun k_ hk_ => trivial)); have n2_ := aM_ (hb); clear BK218; clear HB; clear HO_3; have BK218 := n0_; have HO226 := n1_; have HB := n2_; clear n0_ n1_ n2_; (try clear hb); (try clear hkp); (try clear ho0)))
          go_roundg k2
          case measure => have := HK1.out; have := HK2.out; omega
          case rel => exact ⟨(t224), (wrap64 (x5_2 + 1)), (by rfl), H', ⟨by have := HK1.out; have := HK2.out; omega⟩, ⟨HO226.out⟩, ⟨BK218.out⟩, ⟨HB.out⟩⟩
         ·
          rw [if_neg c9] at H
          exact absurd H (by simp)
        ·
         rw [if_neg c8] at H
         have c8b0 := decide_eq_false c8
         clear c8
         have H' := aM_ H
         clear H
         have p222 : 0 ≤ (x4_1 : Int) := of_decide_eq_true (by (with_reducible assumption))
         have q222 : x4_1 < (l0.length : Int) := of_decide_eq_true (by (with_reducible assumption))
         obtain ⟨ad222, e222, hx222_0⟩ := Kd.at_string HR0.out x4_1 p222 q222
         cases e222
         replace hx222_0 := (HB.out.cell (wB_ w _ hx222_0)).trans hx222_0
         replace p222 := eq_true p222
         replace q222 := eq_true q222
         go_wp2
         go_roundg k2
         case measure => have := HK1.out; have := HK2.out; omega
         case rel => exact ⟨(x3_2), (wrap64 (x4_1 + 1)), (by rfl), H', ⟨by have := HK1.out; have := HK2.out; omega⟩, ⟨HO_3.out⟩, ⟨BK218.out⟩, ⟨HB.out⟩⟩
       ·
        rw [if_neg c7] at H
        exact absurd H (by simp)
      ·
       rw [if_neg c6] at H
       exact absurd H (by simp)
   ·
    rw [if_neg c5] at H
    have c5b0 := decide_eq_false c5
    clear c5
    obtain ⟨y227, hy227⟩ : ∃ y_ : List (S76), y_ = (([] : List (S76))) := ⟨_, rfl⟩
    replace H : (spec_l2Of.l2 k1 l0 x3_1 0 y227) = some r := by first | (rw [hy227]; with_reducible exact H) | (have H2_ := (Option.bind_some _ _).symm.trans H; rw [hy227]; with_reducible exact H2_) | (have H2_ := (Option.bind_some _ _).symm.trans H; with_reducible exact H2_) | with_reducible exact H | (rw [hy227]; exact H) | exact H
    have Ny227 := aM_ hy227
    clear hy227
    have H' := aM_ H
    clear H
    go_wp2_with (first | ((with_reducible refine gD_ (N := 34) rfl ?_); refine Kd.R_lit k76 _ 76 ?hg (N := 34) ?hd (xs := ([] : List (S76))) (inner := []) (ok := fun _ => True) (okp := fun _ => True) ?hr ?hp (fun _ hk => hk) trivial (Below.refl _ _) (Nat.le_refl _) (by simp) ?_; (case hd => rfl); (case hg => rfl); (case hr => (go_simp; done)); (case hp => exact (Reps.none _ _)); intro v228 w14 ho15 hb hg_ hnew_; clear hg_ hnew_; (rw [← Ny227.out] at ho15); replace HO_3 := aM_ (kB_ HO_3.out hb); have HO229 := aM_ (k5_ ho15 (bZ_ HB.out)); replace BK218 := aM_ (bB_ BK218.out hb); replace HB := aM_ (bT_ HB.out hb); clear hb ho15; obtain ⟨Ao16, co16, eo16⟩ := kS_ HO229.out; subst eo16) | ((with_reducible refine gD_ (N := 6) rfl ?_); refine bE_ ?hg (N := 6) ?hd (cs := #[.slice none 0 0]) (t := 36) ?hr ?_; (case hd => rfl); (case hg => rfl); (case hr => (go_simp; done)); intro gb230 hg w17 hbox hb; replace HO_3 := aM_ (kB_ HO_3.out hb); replace HO229 := aM_ (kB_ HO229.out hb); have BK230 := aM_ (hbox); have GW230 := aM_ ((by rw [hg]; exact (bZ_ HB.out) : w.heap.size ≤ gb230)); have GE230 := GW230; replace HB := aM_ (bT_ HB.out hb); have NB218_230 := aM_ ((by rw [hg]; exact Nat.ne_of_lt (bL_ BK218.out) : gb218 ≠ gb230)); have NB230_218 := aM_ NB218_230.out.symm; replace BK218 := aM_ (bB_ BK218.out hb); clear hb hbox hg; have hnb18 := NB230_218.out; have hnc18 := NB218_230.out; have hcz19_0 : w17.cell? ⟨gb230, 0, none⟩ = some (.slice none 0 0) := (bC_ BK230.out 0).trans rfl; have hfz19_0 := bF_ BK230.out 0))
    go_loopg [7] k1 (fun kq v7 w' => ∃ (x7_2 : Int) (x231000_2 : List (S76)) (u231000 : Value), v7 = .int .i64 x7_2 ∧ Aside0 (spec_l2Of.l2 kq l0 x3_1 x7_2 x231000_2 = some r) ∧ Aside0 (kq ≤ k1) ∧ Aside0 (Kd.R Kd.string 9 w' w.heap.size (fun _ => True) u3 x3_1) ∧ Aside0 (Kd.R k76 76 w' w.heap.size (fun _ => True) u231000 x231000_2) ∧ Aside0 (w'.heap[gb218]? = some (.cells #[(.slice none 0 0)] 36 (0, 0))) ∧ Aside0 (w'.heap[gb230]? = some (.cells #[u231000] 36 (0, 0))) ∧ Aside0 (Below w.heap.size w w'))
    case atStart => exact ⟨(0), (y227), (.slice Ao16 y227.length co16), (by rfl), H', ⟨Nat.le_refl _⟩, ⟨by exact kM_ (kF_ (p := ⟨gb230, 0, none⟩) (kT_ HO_3.out BK230.out (by decide)) (fun _ hk => hk.2) (.slice Ao16 y227.length co16)) (fun _ hk => trivial)⟩, ⟨by exact kM_ (kF_ (p := ⟨gb230, 0, none⟩) (kT_ HO229.out BK230.out (by decide)) (fun _ hk => hk.2) (.slice Ao16 y227.length co16)) (fun _ hk => trivial)⟩, ⟨by refine bR_ ?_ NB218_230.out _; exact BK218.out⟩, ⟨by refine bP_ (cs := #[.slice none 0 0]) ?_ 0 _ rfl; exact BK230.out⟩, ⟨by repeat (first | (with_reducible first | exact HB.out | apply bA_ | apply bN_ | apply bD_ | refine bS_ ?_ GE218.out | refine bS_ ?_ GE230.out) | exact HB.out)⟩⟩
    case round =>
     clear H'
     try clear p2
     try clear q2
     try clear hx2
     try clear c5b0
     try clear c6b0
     try clear p6
     try clear c7b0
     try clear c8b0
     try clear c9b0
     try clear c9b1
     try clear c10b0
     try clear hcz19_0
     try clear hfz19_0
     try clear hx222_0
     try clear hx223_0
     try clear p2
     try clear p222
     try clear p223
     try clear q222
     try clear q223
     obtain ⟨x7_2, x231000_2, u231000, rfl, HA, HK2, HO_3, HO_231000, BK218, BK230, HB⟩ := hrel
     cases gk with
     | zero => exact absurd HA.out (by simp [spec_l2Of.l2])
     | succ k2 =>
      have H := HA.out
      clear HA
      simp only [spec_l2Of.l2] at H
      by_cases c20 : x7_2 < (x3_1.length : Int)
      ·
       rw [if_pos c20] at H
       have c20b0 := decide_eq_true c20
       clear c20
       by_cases c21 : 0 ≤ x7_2
       ·
        rw [if_pos c21] at H
        have c21b0 := decide_eq_true c21
        clear c21
        replace H := oB_.mp H
        obtain ⟨t232, A220, H⟩ := H
        try dsimp only at H
        have A22 := aM_ A220
        clear A220
        by_cases c23 : x7_2 > 0
        ·
         rw [if_pos c23] at H
         have c23b0 := decide_eq_true c23
         clear c23
         obtain ⟨ji24, hji24⟩ : ∃ j_ : Int, (wrap64 (((rdOf eB_ x3_1 x7_2).size : Int) - 1)) = j_ := ⟨_, rfl⟩
         replace H : (if 0 ≤ (ji24) then (if (ji24) < ((rdOf eB_ x3_1 x7_2).size : Int) then (if (ji24) ≤ ((rdOf eB_ x3_1 x7_2).size : Int) then ((spec_l2Place.f k2 x3_1 ((rdOf eB_ x3_1 x7_2).extract 0 ((ji24) : Int).toNat)).bind fun t234 => (if x231000_2.length < 5864062014805 then (spec_l2Of.l2 k2 l0 x3_1 (wrap64 (x7_2 + 1)) (x231000_2 ++ [(⟨((bt (rdOf eB_ x3_1 x7_2) (ji24)) - 97) % 256, t234, t232⟩ : S76)])) else (none))) else (none)) else (none)) else (none)) = some r := by first | (rw [hji24] at H; exact H) | (simp only [hji24] at H ⊢; exact H)
         (try rw [hji24] at A22)
         have hji24w : (IntKind.i64.wrap (((rdOf eB_ x3_1 x7_2).size : Int) - 1)) = ji24 := (i6_ _).trans hji24
         by_cases c25 : 0 ≤ (ji24)
         ·
          rw [if_pos c25] at H
          have c25b0 := decide_eq_true c25
          clear c25
          by_cases c26 : (ji24) < ((rdOf eB_ x3_1 x7_2).size : Int)
          ·
           rw [if_pos c26] at H
           have c26b0 := decide_eq_true c26
           clear c26
           have c28b0 := eq_true (of_decide_eq_true (by (with_reducible assumption)) : 0 ≤ (ji24))
           by_cases c29 : (ji24) ≤ ((rdOf eB_ x3_1 x7_2).size : Int)
           ·
            rw [if_pos c29] at H
            have c29b0 := eq_true c29
            have c29b1 := decide_eq_true c29
            clear c29
            replace H := oB_.mp H
            obtain ⟨t234, A300, H⟩ := H
            try dsimp only at H
            have A30 := aM_ A300
            clear A300
            by_cases c31 : x231000_2.length < 5864062014805
            ·
             rw [if_pos c31] at H
             have LMc31 := aM_ c31
             clear c31
             obtain ⟨y235, hy235⟩ : ∃ y_ : List (S76), y_ = (x231000_2 ++ [(⟨((bt (rdOf eB_ x3_1 x7_2) (ji24)) - 97) % 256, t234, t232⟩ : S76)]) := ⟨_, rfl⟩
             replace H : (spec_l2Of.l2 k2 l0 x3_1 (wrap64 (x7_2 + 1)) y235) = some r := by first | (rw [hy235]; with_reducible exact H) | (have H2_ := (Option.bind_some _ _).symm.trans H; rw [hy235]; with_reducible exact H2_) | (have H2_ := (Option.bind_some _ _).symm.trans H; with_reducible exact H2_) | with_reducible exact H | (rw [hy235]; exact H) | exact H
             have Ny235 := aM_ hy235
             clear hy235
             have H' := aM_ H
             clear H
             obtain ⟨Ao32, co32, eo32⟩ := kS_ HO_3.out
             subst eo32
             have p231 : 0 ≤ (x7_2 : Int) := of_decide_eq_true (by (with_reducible assumption))
             have q231 : x7_2 < (x3_1.length : Int) := of_decide_eq_true (by (with_reducible assumption))
             obtain ⟨ad231, e231, hx231_0⟩ := Kd.at_string (kR_ HO_3.out).2.2 x7_2 p231 q231
             cases e231
             replace p231 := eq_true p231
             replace q231 := eq_true q231
             go_wp2_with (first | ((with_reducible refine gC_ (f := 28) rfl ?_); refine goesL_ (some 48) rfl rfl Tryz.func28 (by kernel_rfl) rfl #[.slice A0 l0.length c0, .string (rdOf eB_ x3_1 x7_2)] rfl (by (try simp only [sD_, sE_, sF_]); rfl) ?_; (with_reducible refine (spec_l2Has.calls k2 _ _ l0 (rdOf eB_ x3_1 x7_2) t232 _ ?side1 ?side2 A22.out).mono ?_); (case side1 => repeat (first | exact (k4_ HR0.out HB.out) | (with_reducible refine Kd.C_alloc ?_ _) | (with_reducible refine Kd.C_drewN ?_ _) | (with_reducible refine Kd.C_drew ?_))); (case side2 => exact HC0.out); rintro e w' ⟨rfl, ⟨nd, rfl⟩⟩; refine ⟨_, rfl, ?_⟩; (try (rw [drewN_self wr]; generalize hq_ : World.drewN wr _ = wr; have n0_ : Aside0 (Kd.R k76 76 wr w.heap.size (fun _ => True) u231000 x231000_2) := ⟨by rw [← hq_]; exact (by (with_reducible repeat (first | apply k1_ | apply k2_ | apply k3_)); exact HO_231000.out)⟩; have n1_ : Aside0 (Kd.R Kd.string 9 wr w.heap.size (fun _ => True) (.slice (some ad231) x3_1.length co32) x3_1) := ⟨by rw [← hq_]; exact (by (with_reducible repeat (first | apply k1_ | apply k2_ | apply k3_)); exact HO_3.out)⟩; have n2_ : Aside0 (wr.heap[gb218]? = some (.cells #[.slice none 0 0] 36 (0, 0))) := ⟨by rw [← hq_]; exact (by (with_reducible repeat (first | refine b2_ ?_ _ | refine b1_ ?_ | refine b3_ ?_ _)); exact BK218.out)⟩; have n3_ : Aside0 (wr.heap[gb230]? = some (.cells #[u231000] 36 (0, 0))) := ⟨by rw [← hq_]; exact (by (with_reducible repeat (first | refine b2_ ?_ _ | refine b1_ ?_ | refine b3_ ?_ _)); exact BK230.out)⟩; have n4_ : Aside0 (Below w.heap.size w wr) := ⟨by rw [← hq_]; exact (by repeat (first | (with_reducible first | exact HB.out | apply bA_ | apply bN_ | apply bD_ | refine bS_ ?_ GE218.out | refine bS_ ?_ GE230.out) | exact HB.out))⟩; clear HO_231000 HO_3 BK218 BK230 HB hq_; have HO_231000 := n0_; have HO_3 := n1_; have BK218 := n2_; have BK230 := n3_; have HB := n4_; clear n0_ n1_ n2_ n3_ n4_))) | ((with_reducible refine gD_ (N := 9) rfl ?_); refine bE_ ?hg (N := 9) ?hd (cs := #[.int .i64 0, .int .i64 0, .bool false]) (t := 76) ?hr ?_; (case hd => rfl); (case hg => rfl); (case hr => (go_simp; done)); intro gb233 hg w33 hbox hb; replace HO_3 := aM_ (kB_ HO_3.out hb); replace HO_231000 := aM_ (kB_ (Kd.R_elderB HO_231000.out gb233 (Nat.le_of_eq hg.symm)) hb); have BK233 := aM_ (hbox); have GW233 := aM_ ((by rw [hg]; exact (bZ_ HB.out) : w.heap.size ≤ gb233)); have GE233 := GW233; replace HB := aM_ (bT_ HB.out hb); have NB218_233 := aM_ ((by rw [hg]; exact Nat.ne_of_lt (bL_ BK218.out) : gb218 ≠ gb233)); have NB233_218 := aM_ NB218_233.out.symm; replace BK218 := aM_ (bB_ BK218.out hb); have NB230_233 := aM_ ((by rw [hg]; exact Nat.ne_of_lt (bL_ BK230.out) : gb230 ≠ gb233)); have NB233_230 := aM_ NB230_233.out.symm; replace BK230 := aM_ (bB_ BK230.out hb); clear hb hbox hg; have hnb34 := NB233_218.out; have hnc34 := NB218_233.out; have hnb35 := NB233_230.out; have hnc35 := NB230_233.out; have hcz36_0 : w33.cell? ⟨gb233, 0, none⟩ = some (.int .i64 0) := (bC_ BK233.out 0).trans rfl; have hcz36_1 : w33.cell? ⟨gb233, 1, none⟩ = some (.int .i64 0) := (bC_ BK233.out 1).trans rfl; have hcz36_2 : w33.cell? ⟨gb233, 2, none⟩ = some (.bool false) := (bC_ BK233.out 2).trans rfl; have hfz36_0 := bF_ BK233.out 0; have hfz36_1 := bF_ BK233.out 1; have hfz36_2 := bF_ BK233.out 2; have p27 : 0 ≤ ((ji24) : Int) := of_decide_eq_true (by (with_reducible assumption)); have q27 : (ji24) < ((rdOf eB_ x3_1 x7_2).size : Int) := of_decide_eq_true (by (with_reducible assumption)); have hx27 := bt_at (rdOf eB_ x3_1 x7_2) (ji24); replace p27 := eq_true p27; replace q27 := eq_true q27) | ((with_reducible refine gC_ (f := 77) rfl ?_); refine goesL_ (some 66) rfl rfl Tryz.func77 (by kernel_rfl) rfl #[.slice (some ad231) x3_1.length co32, .string ((rdOf eB_ x3_1 x7_2).extract 0 ((ji24) : Int).toNat)] rfl (by (try simp only [sD_, sE_, sF_]); rfl) ?_; (with_reducible refine (spec_l2Place.calls k2 _ _ x3_1 ((rdOf eB_ x3_1 x7_2).extract 0 ((ji24) : Int).toNat) t234 _ ?side1 ?side2 A30.out).mono ?_); (case side1 => refine (kR_ (e := 9) (base := w.heap.size) (ok := fun k_ => True) (n := x3_1.length) (c := co32) ?_).2.2; exact (by exact (kM_ (kF_ (p := ⟨gb233, 0, none⟩) (kF_ (p := ⟨gb233, 2, none⟩) (kF_ (p := ⟨gb233, 1, none⟩) (kF_ (p := ⟨gb233, 0, none⟩) (kT_ HO_3.out BK233.out (by decide)) (fun _ hk => hk.2) (.int .i64 (-1))) (fun _ hk => hk.2) (.int .i64 (-1))) (fun _ hk => hk.2) (.bool t232)) (fun _ hk => hk.2) (.int .i64 (((bt (rdOf eB_ x3_1 x7_2) (ji24)) - 97) % 256))) (fun _ h_ => h_.1)))); (case side2 => exact (kR_ HO_3.out).2.1); rintro e w' ⟨rfl, ⟨nd, rfl⟩⟩; refine ⟨_, rfl, ?_⟩; have m0_ : Aside0 (Kd.R Kd.string 9 (((((w33.setCell ⟨gb233, 0, none⟩ (.int .i64 (-1))).setCell ⟨gb233, 1, none⟩ (.int .i64 (-1))).setCell ⟨gb233, 2, none⟩ (.bool t232)).setCell ⟨gb233, 0, none⟩ (.int .i64 (((bt (rdOf eB_ x3_1 x7_2) (ji24)) - 97) % 256))).drewN nd) w.heap.size (fun _ => True) (.slice (some ad231) x3_1.length co32) x3_1) := ⟨by (with_reducible repeat (first | apply k1_ | apply k2_ | apply k3_)); exact kM_ (kF_ (p := ⟨gb233, 0, none⟩) (kF_ (p := ⟨gb233, 2, none⟩) (kF_ (p := ⟨gb233, 1, none⟩) (kF_ (p := ⟨gb233, 0, none⟩) (kT_ HO_3.out BK233.out (by decide)) (fun _ hk => hk.2) (.int .i64 (-1))) (fun _ hk => hk.2) (.int .i64 (-1))) (fun _ hk => hk.2) (.bool t232)) (fun _ hk => hk.2) (.int .i64 (((bt (rdOf eB_ x3_1 x7_2) (ji24)) - 97) % 256))) (fun _ _ => trivial)⟩; have m1_ : Aside0 (Kd.R k76 76 (((((w33.setCell ⟨gb233, 0, none⟩ (.int .i64 (-1))).setCell ⟨gb233, 1, none⟩ (.int .i64 (-1))).setCell ⟨gb233, 2, none⟩ (.bool t232)).setCell ⟨gb233, 0, none⟩ (.int .i64 (((bt (rdOf eB_ x3_1 x7_2) (ji24)) - 97) % 256))).drewN nd) w.heap.size (fun k_ => True ∧ k_ ≠ gb233) u231000 x231000_2) := ⟨by (with_reducible repeat (first | apply k1_ | apply k2_ | apply k3_)); exact kM_ (kF_ (p := ⟨gb233, 0, none⟩) (kF_ (p := ⟨gb233, 2, none⟩) (kF_ (p := ⟨gb233, 1, none⟩) (kF_ (p := ⟨gb233, 0, none⟩) (kM_ HO_231000.out (fun k_ hk => (⟨hk, hk.2⟩ : _ ∧ k_ ≠ gb233))) (fun _ hk => hk.2) (.int .i64 (-1))) (fun _ hk => hk.2) (.int .i64 (-1))) (fun _ hk => hk.2) (.bool t232)) (fun _ hk => hk.2) (.int .i64 (((bt (rdOf eB_ x3_1 x7_2) (ji24)) - 97) % 256))) (fun _ hk => ⟨trivial, hk.2⟩)⟩; have m2_ : Aside0 ((((((w33.setCell ⟨gb233, 0, none⟩ (.int .i64 (-1))).setCell ⟨gb233, 1, none⟩ (.int .i64 (-1))).setCell ⟨gb233, 2, none⟩ (.bool t232)).setCell ⟨gb233, 0, none⟩ (.int .i64 (((bt (rdOf eB_ x3_1 x7_2) (ji24)) - 97) % 256))).drewN nd).heap[gb218]? = some (.cells #[.slice none 0 0] 36 (0, 0))) := ⟨by (with_reducible repeat (first | refine b2_ ?_ _ | refine b1_ ?_ | refine b3_ ?_ _)); refine bR_ ?_ NB218_233.out _; refine bR_ ?_ NB218_233.out _; refine bR_ ?_ NB218_233.out _; refine bR_ ?_ NB218_233.out _; exact BK218.out⟩; have m3_ : Aside0 ((((((w33.setCell ⟨gb233, 0, none⟩ (.int .i64 (-1))).setCell ⟨gb233, 1, none⟩ (.int .i64 (-1))).setCell ⟨gb233, 2, none⟩ (.bool t232)).setCell ⟨gb233, 0, none⟩ (.int .i64 (((bt (rdOf eB_ x3_1 x7_2) (ji24)) - 97) % 256))).drewN nd).heap[gb230]? = some (.cells #[u231000] 36 (0, 0))) := ⟨by (with_reducible repeat (first | refine b2_ ?_ _ | refine b1_ ?_ | refine b3_ ?_ _)); refine bR_ ?_ NB230_233.out _; refine bR_ ?_ NB230_233.out _; refine bR_ ?_ NB230_233.out _; refine bR_ ?_ NB230_233.out _; exact BK230.out⟩; have m4_ : Aside0 ((((((w33.setCell ⟨gb233, 0, none⟩ (.int .i64 (-1))).setCell ⟨gb233, 1, none⟩ (.int .i64 (-1))).setCell ⟨gb233, 2, none⟩ (.bool t232)).setCell ⟨gb233, 0, none⟩ (.int .i64 (((bt (rdOf eB_ x3_1 x7_2) (ji24)) - 97) % 256))).drewN nd).heap[gb233]? = some (.cells #[.int .i64 (((bt (rdOf eB_ x3_1 x7_2) (ji24)) - 97) % 256), .int .i64 (-1), .bool t232] 76 (0, 0))) := ⟨by (with_reducible repeat (first | refine b2_ ?_ _ | refine b1_ ?_ | refine b3_ ?_ _)); refine bP_ (cs := #[.int .i64 (-1), .int .i64 (-1), .bool t232]) ?_ 0 _ rfl; refine bP_ (cs := #[.int .i64 (-1), .int .i64 (-1), .bool false]) ?_ 2 _ rfl; refine bP_ (cs := #[.int .i64 (-1), .int .i64 0, .bool false]) ?_ 1 _ rfl; refine bP_ (cs := #[.int .i64 0, .int .i64 0, .bool false]) ?_ 0 _ rfl; exact BK233.out⟩; have m5_ : Aside0 (Below w.heap.size w (((((w33.setCell ⟨gb233, 0, none⟩ (.int .i64 (-1))).setCell ⟨gb233, 1, none⟩ (.int .i64 (-1))).setCell ⟨gb233, 2, none⟩ (.bool t232)).setCell ⟨gb233, 0, none⟩ (.int .i64 (((bt (rdOf eB_ x3_1 x7_2) (ji24)) - 97) % 256))).drewN nd)) := ⟨by repeat (first | (with_reducible first | exact HB.out | apply bA_ | apply bN_ | apply bD_ | refine bS_ ?_ GE218.out | refine bS_ ?_ GE230.out | refine bS_ ?_ GE233.out) | exact HB.out)⟩; clear HO_3 HO_231000 BK218 BK230 BK233 HB; generalize (((((w33.setCell ⟨gb233, 0, none⟩ (.int .i64 (-1))).setCell ⟨gb233, 1, none⟩ (.int .i64 (-1))).setCell ⟨gb233, 2, none⟩ (.bool t232)).setCell ⟨gb233, 0, none⟩ (.int .i64 (((bt (rdOf eB_ x3_1 x7_2) (ji24)) - 97) % 256))).drewN nd) = w339 at m0_ m1_ m2_ m3_ m4_ m5_ ⊢; have HO_3 := m0_; have HO_231000 := m1_; have BK218 := m2_; have BK230 := m3_; have BK233 := m4_; have HB := m5_; clear m0_ m1_ m2_ m3_ m4_ m5_; have hczz_0 : w339.cell? ⟨gb233, 0, none⟩ = some (.int .i64 (((bt (rdOf eB_ x3_1 x7_2) (ji24)) - 97) % 256)) := (bC_ BK233.out 0).trans rfl; have hfzz_0 := bF_ BK233.out 0; have hczz_1 : w339.cell? ⟨gb233, 1, none⟩ = some (.int .i64 (-1)) := (bC_ BK233.out 1).trans rfl; have hfzz_1 := bF_ BK233.out 1; have hczz_2 : w339.cell? ⟨gb233, 2, none⟩ = some (.bool t232) := (bC_ BK233.out 2).trans rfl; have hfzz_2 := bF_ BK233.out 2; have hnb37 := NB230_218.out; have hnc37 := NB218_230.out; have hcz38_0 : w339.cell? ⟨gb230, 0, none⟩ = some (u231000) := (bC_ BK230.out 0).trans rfl; have hfz38_0 := bF_ BK230.out 0) | ((with_reducible refine gate_builtin (b := .append) (xs := #[.tmp 69, .tmp 71]) rfl ?_); at_builtin; refine Kd.R_append k76 (w0 := w) w.heap.size rfl (.tmp 69) (.tmp 71) 34 76 (.agg #[(.int .i64 0), (.int .i64 0), (.bool false)]) 24 rfl Tryz.underlying34 info76 rfl (by decide) (by omega) u231000 x231000_2 (⟨((bt (rdOf eB_ x3_1 x7_2) (ji24)) - 97) % 256, t234, t232⟩ : S76) [.int .i64 (((bt (rdOf eB_ x3_1 x7_2) (ji24)) - 97) % 256), .int .i64 t234, .bool t232] (fun k_ => k_ ≠ gb233) (fun _ => False) rfl (by (go_simp; done)) ?aP (fun _ hk => hk.elim) ?aF ?aO ?aB ?aS ?aL ?_; (case aP => exact k76_mkM _ _ _ (⟨((bt (rdOf eB_ x3_1 x7_2) (ji24)) - 97) % 256, t234, t232⟩ : S76)); (case aB => exact (by repeat (first | (with_reducible first | exact HB.out | apply bA_ | apply bN_ | apply bD_ | refine bS_ ?_ GE218.out | refine bS_ ?_ GE230.out | refine bS_ ?_ GE233.out) | exact HB.out))); (case aF => exact (fun k_ hk => Kd.freshB (g := gb233) (o := .cells #[.int .i64 (((bt (rdOf eB_ x3_1 x7_2) (ji24)) - 97) % 256), .int .i64 t234, .bool t232] 76 (0, 0)) (by refine bP_ (cs := #[.int .i64 (((bt (rdOf eB_ x3_1 x7_2) (ji24)) - 97) % 256), .int .i64 (-1), .bool t232]) ?_ 1 _ rfl; exact BK233.out) k_ hk)); (case aO => exact (by exact kM_ (kF_ (p := ⟨gb233, 1, none⟩) (kM_ HO_231000.out (fun k_ hk => (⟨hk, hk.2⟩ : _ ∧ k_ ≠ gb233))) (fun _ hk => hk.2) (.int .i64 t234)) (fun _ hk => hk.1.2))); (case aS => exact (bZ_ (by repeat (first | (with_reducible first | exact HB.out | apply bA_ | apply bN_ | apply bD_ | refine bS_ ?_ GE218.out | refine bS_ ?_ GE230.out | refine bS_ ?_ GE233.out) | exact HB.out)))); (case aL => have := LMc31.out; omega); intro v236 w39 ho hb hg hat; rw [← Ny235.out] at ho; have n0_ := aM_ (Kd.R_over' (by exact (kM_ (kF_ (p := ⟨gb233, 1, none⟩) (kT_ HO_3.out BK233.out (by decide)) (fun _ hk => hk.2) (.int .i64 t234)) (fun _ h_ => h_.1))) (Kd.R_typed (by exact (kM_ (kF_ (p := ⟨gb233, 1, none⟩) (kM_ HO_231000.out (fun k_ hk => (⟨hk, hk.2⟩ : _ ∧ k_ ≠ gb233))) (fun _ hk => hk.2) (.int .i64 t234)) (fun _ h_ => h_.1)))) (by decide) hg); have n1_ := aM_ (blk_grown (g := gb218) (o := .cells #[.slice none 0 0] 36 (0, 0)) (by refine bR_ ?_ NB218_233.out _; exact BK218.out) hg (k6_ HO_231000.out BK218.out (by decide))); have n2_ := aM_ (blk_grown (g := gb230) (o := .cells #[u231000] 36 (0, 0)) (by refine bR_ ?_ NB230_233.out _; exact BK230.out) hg (k6_ HO_231000.out BK230.out (by decide))); have n3_ := aM_ (blk_grown (g := gb233) (o := .cells #[.int .i64 (((bt (rdOf eB_ x3_1 x7_2) (ji24)) - 97) % 256), .int .i64 t234, .bool t232] 76 (0, 0)) (by refine bP_ (cs := #[.int .i64 (((bt (rdOf eB_ x3_1 x7_2) (ji24)) - 97) % 256), .int .i64 (-1), .bool t232]) ?_ 1 _ rfl; exact BK233.out) hg (Kd.R_away HO_231000.out (fun _ hk => hk.2))); have n4_ := aM_ (hb); have n5_ := aM_ (ho); clear HO_3; clear BK218; clear BK230; clear BK233; clear HB; clear HO_231000; have HO_3 := n0_; have BK218 := n1_; have BK230 := n2_; have BK233 := n3_; have HB := n4_; have HO237 := n5_; clear n0_ n1_ n2_ n3_ n4_ n5_; clear ho hb hg hat; obtain ⟨Ao40, co40, eo40⟩ := kS_ HO237.out; subst eo40; have hcz41_0 : w39.cell? ⟨gb230, 0, none⟩ = some (u231000) := (bC_ BK230.out 0).trans rfl; have hfz41_0 := bF_ BK230.out 0))
             go_roundg k2
             case measure => have := HK1.out; have := HK2.out; omega
             case rel => exact ⟨(wrap64 (x7_2 + 1)), (y235), (.slice Ao40 y235.length co40), (by rfl), H', ⟨by have := HK1.out; have := HK2.out; omega⟩, ⟨by exact kM_ (kF_ (p := ⟨gb230, 0, none⟩) (kT_ HO_3.out BK230.out (by decide)) (fun _ hk => hk.2) (.slice Ao40 y235.length co40)) (fun _ hk => trivial)⟩, ⟨by exact kM_ (kF_ (p := ⟨gb230, 0, none⟩) (kT_ HO237.out BK230.out (by decide)) (fun _ hk => hk.2) (.slice Ao40 y235.length co40)) (fun _ hk => trivial)⟩, ⟨by refine bR_ ?_ NB218_230.out _; exact BK218.out⟩, ⟨by refine bP_ (cs := #[u231000]) ?_ 0 _ rfl; exact BK230.out⟩, ⟨by repeat (first | (with_reducible first | exact HB.out | apply bA_ | apply bN_ | apply bD_ | refine bS_ ?_ GE218.out | refine bS_ ?_ GE230.out | refine bS_ ?_ GE233.out) | exact HB.out)⟩⟩
            ·
             rw [if_neg c31] at H
             exact absurd H (by simp)
           ·
            rw [if_neg c29] at H
            exact absurd H (by simp)
          ·
           rw [if_neg c26] at H
           exact absurd H (by simp)
         ·
          rw [if_neg c25] at H
          exact absurd H (by simp)
        ·
         rw [if_neg c23] at H
         have c23b0 := decide_eq_false c23
         clear c23
         by_cases c42 : x231000_2.length < 5864062014805
         ·
          rw [if_pos c42] at H
          have LMc42 := aM_ c42
          clear c42
          obtain ⟨y238, hy238⟩ : ∃ y_ : List (S76), y_ = (x231000_2 ++ [(⟨(-1), (-1), t232⟩ : S76)]) := ⟨_, rfl⟩
          replace H : (spec_l2Of.l2 k2 l0 x3_1 (wrap64 (x7_2 + 1)) y238) = some r := by first | (rw [hy238]; with_reducible exact H) | (have H2_ := (Option.bind_some _ _).symm.trans H; rw [hy238]; with_reducible exact H2_) | (have H2_ := (Option.bind_some _ _).symm.trans H; with_reducible exact H2_) | with_reducible exact H | (rw [hy238]; exact H) | exact H
          have Ny238 := aM_ hy238
          clear hy238
          have H' := aM_ H
          clear H
          obtain ⟨Ao43, co43, eo43⟩ := kS_ HO_3.out
          subst eo43
          have p231 : 0 ≤ (x7_2 : Int) := of_decide_eq_true (by (with_reducible assumption))
          have q231 : x7_2 < (x3_1.length : Int) := of_decide_eq_true (by (with_reducible assumption))
          obtain ⟨ad231, e231, hx231_0⟩ := Kd.at_string (kR_ HO_3.out).2.2 x7_2 p231 q231
          cases e231
          replace p231 := eq_true p231
          replace q231 := eq_true q231
          go_wp2_with (first | ((with_reducible refine gC_ (f := 28) rfl ?_); refine goesL_ (some 48) rfl rfl Tryz.func28 (by kernel_rfl) rfl #[.slice A0 l0.length c0, .string (rdOf eB_ x3_1 x7_2)] rfl (by (try simp only [sD_, sE_, sF_]); rfl) ?_; (with_reducible refine (spec_l2Has.calls k2 _ _ l0 (rdOf eB_ x3_1 x7_2) t232 _ ?side1 ?side2 A22.out).mono ?_); (case side1 => repeat (first | exact (k4_ HR0.out HB.out) | (with_reducible refine Kd.C_alloc ?_ _) | (with_reducible refine Kd.C_drewN ?_ _) | (with_reducible refine Kd.C_drew ?_))); (case side2 => exact HC0.out); rintro e w' ⟨rfl, ⟨nd, rfl⟩⟩; refine ⟨_, rfl, ?_⟩; (try (rw [drewN_self wr]; generalize hq_ : World.drewN wr _ = wr; have n0_ : Aside0 (Kd.R k76 76 wr w.heap.size (fun _ => True) u231000 x231000_2) := ⟨by rw [← hq_]; exact (by (with_reducible repeat (first | apply k1_ | apply k2_ | apply k3_)); exact HO_231000.out)⟩; have n1_ : Aside0 (Kd.R Kd.string 9 wr w.heap.size (fun _ => True) (.slice (some ad231) x3_1.length co43) x3_1) := ⟨by rw [← hq_]; exact (by (with_reducible repeat (first | apply k1_ | apply k2_ | apply k3_)); exact HO_3.out)⟩; have n2_ : Aside0 (wr.heap[gb218]? = some (.cells #[.slice none 0 0] 36 (0, 0))) := ⟨by rw [← hq_]; exact (by (with_reducible repeat (first | refine b2_ ?_ _ | refine b1_ ?_ | refine b3_ ?_ _)); exact BK218.out)⟩; have n3_ : Aside0 (wr.heap[gb230]? = some (.cells #[u231000] 36 (0, 0))) := ⟨by rw [← hq_]; exact (by (with_reducible repeat (first | refine b2_ ?_ _ | refine b1_ ?_ | refine b3_ ?_ _)); exact BK230.out)⟩; have n4_ : Aside0 (Below w.heap.size w wr) := ⟨by rw [← hq_]; exact (by repeat (first | (with_reducible first | exact HB.out | apply bA_ | apply bN_ | apply bD_ | refine bS_ ?_ GE218.out | refine bS_ ?_ GE230.out) | exact HB.out))⟩; clear HO_231000 HO_3 BK218 BK230 HB hq_; have HO_231000 := n0_; have HO_3 := n1_; have BK218 := n2_; have BK230 := n3_; have HB := n4_; clear n0_ n1_ n2_ n3_ n4_))) | ((with_reducible refine gD_ (N := 9) rfl ?_); refine bE_ ?hg (N := 9) ?hd (cs := #[.int .i64 0, .int .i64 0, .bool false]) (t := 76) ?hr ?_; (case hd => rfl); (case hg => rfl); (case hr => (go_simp; done)); intro gb233 hg w44 hbox hb; replace HO_3 := aM_ (kB_ HO_3.out hb); replace HO_231000 := aM_ (kB_ (Kd.R_elderB HO_231000.out gb233 (Nat.le_of_eq hg.symm)) hb); have BK233 := aM_ (hbox); have GW233 := aM_ ((by rw [hg]; exact (bZ_ HB.out) : w.heap.size ≤ gb233)); have GE233 := GW233; replace HB := aM_ (bT_ HB.out hb); have NB218_233 := aM_ ((by rw [hg]; exact Nat.ne_of_lt (bL_ BK218.out) : gb218 ≠ gb233)); have NB233_218 := aM_ NB218_233.out.symm; replace BK218 := aM_ (bB_ BK218.out hb); have NB230_233 := aM_ ((by rw [hg]; exact Nat.ne_of_lt (bL_ BK230.out) : gb230 ≠ gb233)); have NB233_230 := aM_ NB230_233.out.symm; replace BK230 := aM_ (bB_ BK230.out hb); clear hb hbox hg; have hnb45 := NB233_218.out; have hnc45 := NB218_233.out; have hnb46 := NB233_230.out; have hnc46 := NB230_233.out; have hcz47_0 : w44.cell? ⟨gb233, 0, none⟩ = some (.int .i64 0) := (bC_ BK233.out 0).trans rfl; have hcz47_1 : w44.cell? ⟨gb233, 1, none⟩ = some (.int .i64 0) := (bC_ BK233.out 1).trans rfl; have hcz47_2 : w44.cell? ⟨gb233, 2, none⟩ = some (.bool false) := (bC_ BK233.out 2).trans rfl; have hfz47_0 := bF_ BK233.out 0; have hfz47_1 := bF_ BK233.out 1; have hfz47_2 := bF_ BK233.out 2; have hnb48 := NB230_218.out; have hnc48 := NB218_230.out; have hcz49_0 : w44.cell? ⟨gb230, 0, none⟩ = some (u231000) := (bC_ BK230.out 0).trans rfl; have hfz49_0 := bF_ BK230.out 0) | ((with_reducible refine gate_builtin (b := .append) (xs := #[.tmp 69, .tmp 71]) rfl ?_); at_builtin; refine Kd.R_append k76 (w0 := w) w.heap.size rfl (.tmp 69) (.tmp 71) 34 76 (.agg #[(.int .i64 0), (.int .i64 0), (.bool false)]) 24 rfl Tryz.underlying34 info76 rfl (by decide) (by omega) u231000 x231000_2 (⟨(-1), (-1), t232⟩ : S76) [.int .i64 (-1), .int .i64 (-1), .bool t232] (fun k_ => k_ ≠ gb233) (fun _ => False) rfl (by (go_simp; done)) ?aP (fun _ hk => hk.elim) ?aF ?aO ?aB ?aS ?aL ?_; (case aP => exact k76_mkM _ _ _ (⟨(-1), (-1), t232⟩ : S76)); (case aB => exact (by repeat (first | (with_reducible first | exact HB.out | apply bA_ | apply bN_ | apply bD_ | refine bS_ ?_ GE218.out | refine bS_ ?_ GE230.out | refine bS_ ?_ GE233.out) | exact HB.out))); (case aF => exact (fun k_ hk => Kd.freshB (g := gb233) (o := .cells #[.int .i64 (-1), .int .i64 (-1), .bool t232] 76 (0, 0)) (by refine bP_ (cs := #[.int .i64 (-1), .int .i64 (-1), .bool false]) ?_ 2 _ rfl; refine bP_ (cs := #[.int .i64 (-1), .int .i64 0, .bool false]) ?_ 1 _ rfl; refine bP_ (cs := #[.int .i64 0, .int .i64 0, .bool false]) ?_ 0 _ rfl; exact BK233.out) k_ hk)); (case aO => exact (by exact kM_ (kF_ (p := ⟨gb233, 2, none⟩) (kF_ (p := ⟨gb233, 1, none⟩) (kF_ (p := ⟨gb233, 0, none⟩) (kM_ HO_231000.out (fun k_ hk => (⟨hk, hk.2⟩ : _ ∧ k_ ≠ gb233))) (fun _ hk => hk.2) (.int .i64 (-1))) (fun _ hk => hk.2) (.int .i64 (-1))) (fun _ hk => hk.2) (.bool t232)) (fun _ hk => hk.1.2))); (case aS => exact (bZ_ (by repeat (first | (with_reducible first | exact HB.out | apply bA_ | apply bN_ | apply bD_ | refine bS_ ?_ GE218.out | refine bS_ ?_ GE230.out | refine bS_ ?_ GE233.out) | exact HB.out)))); (case aL => have := LMc42.out; omega); intro v239 w50 ho hb hg hat; rw [← Ny238.out] at ho; have n0_ := aM_ (Kd.R_over' (by exact (kM_ (kF_ (p := ⟨gb233, 2, none⟩) (kF_ (p := ⟨gb233, 1, none⟩) (kF_ (p := ⟨gb233, 0, none⟩) (kT_ HO_3.out BK233.out (by decide)) (fun _ hk => hk.2) (.int .i64 (-1))) (fun _ hk => hk.2) (.int .i64 (-1))) (fun _ hk => hk.2) (.bool t232)) (fun _ h_ => h_.1))) (Kd.R_typed (by exact (kM_ (kF_ (p := ⟨gb233, 2, none⟩) (kF_ (p := ⟨gb233, 1, none⟩) (kF_ (p := ⟨gb233, 0, none⟩) (kM_ HO_231000.out (fun k_ hk => (⟨hk, hk.2⟩ : _ ∧ k_ ≠ gb233))) (fun _ hk => hk.2) (.int .i64 (-1))) (fun _ hk => hk.2) (.int .i64 (-1))) (fun _ hk => hk.2) (.bool t232)) (fun _ h_ => h_.1)))) (by decide) hg); have n1_ := aM_ (blk_grown (g := gb218) (o := .cells #[.slice none 0 0] 36 (0, 0)) (by refine bR_ ?_ NB218_233.out _; refine bR_ ?_ NB218_233.out _; refine bR_ ?_ NB218_233.out _; exact BK218.out) hg (k6_ HO_231000.out BK218.out (by decide))); have n2_ := aM_ (blk_grown (g := gb230) (o := .cells #[u231000] 36 (0, 0)) (by refine bR_ ?_ NB230_233.out _; refine bR_ ?_ NB230_233.out _; refine bR_ ?_ NB230_233.out _; exact BK230.out) hg (k6_ HO_231000.out BK230.out (by decide))); have n3_ := aM_ (blk_grown (g := gb233) (o := .cells #[.int .i64 (-1), .int .i64 (-1), .bool t232] 76 (0, 0)) (by refine bP_ (cs := #[.int .i64 (-1), .int .i64 (-1), .bool false]) ?_ 2 _ rfl; refine bP_ (cs := #[.int .i64 (-1), .int .i64 0, .bool false]) ?_ 1 _ rfl; refine bP_ (cs := #[.int .i64 0, .int .i64 0, .bool false]) ?_ 0 _ rfl; exact BK233.out) hg (Kd.R_away HO_231000.out (fun _ hk => hk.2))); have n4_ := aM_ (hb); have n5_ := aM_ (ho); clear HO_3; clear BK218; clear BK230; clear BK233; clear HB; clear HO_231000; have HO_3 := n0_; have BK218 := n1_; have BK230 := n2_; have BK233 := n3_; have HB := n4_; have HO240 := n5_; clear n0_ n1_ n2_ n3_ n4_ n5_; clear ho hb hg hat; obtain ⟨Ao51, co51, eo51⟩ := kS_ HO240.out; subst eo51; have hcz52_0 : w50.cell? ⟨gb230, 0, none⟩ = some (u231000) := (bC_ BK230.out 0).trans rfl; have hfz52_0 := bF_ BK230.out 0))
          go_roundg k2
          case measure => have := HK1.out; have := HK2.out; omega
          case rel => exact ⟨(wrap64 (x7_2 + 1)), (y238), (.slice Ao51 y238.length co51), (by rfl), H', ⟨by have := HK1.out; have := HK2.out; omega⟩, ⟨by exact kM_ (kF_ (p := ⟨gb230, 0, none⟩) (kT_ HO_3.out BK230.out (by decide)) (fun _ hk => hk.2) (.slice Ao51 y238.length co51)) (fun _ hk => trivial)⟩, ⟨by exact kM_ (kF_ (p := ⟨gb230, 0, none⟩) (kT_ HO240.out BK230.out (by decide)) (fun _ hk => hk.2) (.slice Ao51 y238.length co51)) (fun _ hk => trivial)⟩, ⟨by refine bR_ ?_ NB218_230.out _; exact BK218.out⟩, ⟨by refine bP_ (cs := #[u231000]) ?_ 0 _ rfl; exact BK230.out⟩, ⟨by repeat (first | (with_reducible first | exact HB.out | apply bA_ | apply bN_ | apply bD_ | refine bS_ ?_ GE218.out | refine bS_ ?_ GE230.out | refine bS_ ?_ GE233.out) | exact HB.out)⟩⟩
         ·
          rw [if_neg c42] at H
          exact absurd H (by simp)
       ·
        rw [if_neg c21] at H
        exact absurd H (by simp)
      ·
       rw [if_neg c20] at H
       have c20b0 := decide_eq_false c20
       clear c20
       obtain rfl := Option.some.inj H
       obtain ⟨Ao53, co53, eo53⟩ := kS_ HO_3.out
       subst eo53
       have hnb54 := NB230_218.out
       have hnc54 := NB218_230.out
       have hcz55_0 : wr.cell? ⟨gb230, 0, none⟩ = some (u231000) := (bC_ BK230.out 0).trans rfl
       have hfz55_0 := bF_ BK230.out 0
       obtain ⟨Ao56, co56, eo56⟩ := kS_ HO_231000.out
       subst eo56
       have hcz57_0 : wr.cell? ⟨gb218, 0, none⟩ = some (.slice none 0 0) := (bC_ BK218.out 0).trans rfl
       have hfz57_0 := bF_ BK218.out 0
       go_wp2
       refine bodyPost_ret (results_cell_row rfl _ _ gb218 36 #[.slice Ao56 x231000_2.length co56] (0, 0) _ rfl (by refine bP_ (cs := #[.slice none 0 0]) ?_ 0 _ rfl; exact BK218.out) Tryz.underlying36 rfl (by kernel_rfl)) rfl ?_
       exact ⟨_, by rfl, by exact kM_ (kF_ (p := ⟨gb218, 0, none⟩) (kT_ HO_231000.out BK218.out (by decide)) (fun _ hk => hk.2) (.slice Ao56 x231000_2.length co56)) (fun _ hk => trivial), by repeat (first | (with_reducible first | exact HB.out | apply bA_ | apply bN_ | apply bD_ | refine bS_ ?_ GE218.out | refine bS_ ?_ GE230.out) | exact HB.out)⟩
def spec_l4Open.l0 : Nat → List ByteArray → Int → List (S60) → Option ((List (S76)) × Bool)
 | 0, _, _, _ => none
 | k + 1, x4, x5, x246000 => if x5 < (x246000.length : Int) then (if 0 ≤ x5 then (if (rd_T60 x246000 x5).f2 = true then ((spec_l4Prefix.f k x246000 x5).bind fun t252 => (if x4.length < 8796093022208 then (spec_l4Open.l0 k (x4 ++ [t252]) (wrap64 (x5 + 1)) x246000) else (none))) else (spec_l4Open.l0 k x4 (wrap64 (x5 + 1)) x246000)) else (none)) else ((spec_l2Set.f k x4).bind fun bt256 => (if bt256.2 = true then ((spec_l2Of.f k bt256.1).bind fun t260 => ((spec_l4Press.f k t260).bind fun t264 => ((spec_l4Same.f k t264 x246000).bind fun t267 => (if t267 = true then (some (t260, true)) else (some (([] : List (S76)), false)))))) else (some (([] : List (S76)), false))))
def spec_l4Open.f (k : Nat) (l0_0 : List (S60)) : Option ((List (S76)) × Bool) := (spec_l1In.f (l0_0.length : Int) 1 81).bind fun t250 => (if t250 = true then (spec_l4Open.l0 k (([] : List ByteArray)) 0 l0_0) else (some (([] : List (S76)), false)))
theorem spec_l4Open.mono_l : ∀ k, (∀ y0 y1 y2, LeO (spec_l4Open.l0 k y0 y1 y2) (spec_l4Open.l0 (k + 1) y0 y1 y2))
 | 0 => fun _ _ _ r h => by simp [spec_l4Open.l0] at h
 | k + 1 => by
  have ih0 := spec_l4Open.mono_l k
  ·
   intro y0 y1 y2
   unfold spec_l4Open.l0
   repeat' first
   | (with_reducible exact ih0 _ _ _)
   | (with_reducible exact spec_l2Of.mono _ _)
   | (with_reducible exact spec_l2Set.mono _ _)
   | (with_reducible exact spec_l4Prefix.mono _ _ _)
   | (with_reducible exact spec_l4Press.mono _ _)
   | (with_reducible exact spec_l4Same.mono _ _ _)
   | (with_reducible exact l3_ _)
   | (with_reducible exact l0_ _)
   | (with_reducible refine l2_ ?_ ?_)
   | (with_reducible refine l1_ ?_ (fun _ => ?_))
   | exact ih0 _ _ _
   | exact spec_l2Of.mono _ _
   | exact spec_l2Set.mono _ _
   | exact spec_l4Prefix.mono _ _ _
   | exact spec_l4Press.mono _ _
   | exact spec_l4Same.mono _ _ _
   | exact l0_ _
   | refine l2_ ?_ ?_
   | refine l1_ ?_ (fun _ => ?_)
theorem spec_l4Open.mono : ∀ a0 k, LeO (spec_l4Open.f k a0) (spec_l4Open.f (k + 1) a0) := by
 intro a0 k
 have ih0 := spec_l4Open.mono_l k
 unfold spec_l4Open.f
 repeat' first
   | (with_reducible exact ih0 _ _ _)
   | (with_reducible exact spec_l2Of.mono _ _)
   | (with_reducible exact spec_l2Set.mono _ _)
   | (with_reducible exact spec_l4Prefix.mono _ _ _)
   | (with_reducible exact spec_l4Press.mono _ _)
   | (with_reducible exact spec_l4Same.mono _ _ _)
   | (with_reducible exact l3_ _)
   | (with_reducible exact l0_ _)
   | (with_reducible refine l2_ ?_ ?_)
   | (with_reducible refine l1_ ?_ (fun _ => ?_))
   | exact ih0 _ _ _
   | exact spec_l2Of.mono _ _
   | exact spec_l2Set.mono _ _
   | exact spec_l4Prefix.mono _ _ _
   | exact spec_l4Press.mono _ _
   | exact spec_l4Same.mono _ _ _
   | exact l0_ _
   | refine l2_ ?_ ?_
   | refine l1_ ?_ (fun _ => ?_)
theorem spec_l4Open.calls (k : Nat) (A0_0 : Option Addr) (c0_0 : Nat) (l0_0 : List (S60)) (r1 : List (S76)) (r2 : Bool) (w : World) (hr0_0 : Kd.C k60 w A0_0 l0_0.length l0_0) (hc0_0 : l0_0.length ≤ c0_0) (h : spec_l4Open.f k l0_0 = some (r1, r2)) :
  Calls Tryz.prog 27 #[.agg #[.slice A0_0 l0_0.length c0_0]] w fun e w' => ∃ v0_ : Value, e = .returned (.tuple #[.agg #[v0_], .bool r2]) ∧ Kd.R k76 76 w' w.heap.size (fun _ => True) v0_ r1 ∧ Below w.heap.size w w' := by
 have hu30 := Tryz.underlying30
 have hu36 := Tryz.underlying36
 have HR0_0 := aM_ hr0_0
 have HC0_0 := aM_ hc0_0
 clear hr0_0 hc0_0
 have HB := aM_ (Below.refl w.heap.size w)
 have H : ((spec_l1In.f (l0_0.length : Int) 1 81).bind fun t250 => (if t250 = true then (spec_l4Open.l0 k (([] : List ByteArray)) 0 l0_0) else (some (([] : List (S76)), false)))) = some (r1, r2) := h
 clear h
 obtain ⟨y247, hy247⟩ : ∃ y_ : List ByteArray, y_ = (([] : List ByteArray)) := ⟨_, rfl⟩
 replace H : ((spec_l1In.f (l0_0.length : Int) 1 81).bind fun t250 => (if t250 = true then (spec_l4Open.l0 k y247 0 l0_0) else (some (([] : List (S76)), false)))) = some (r1, r2) := by first | (rw [hy247]; with_reducible exact H) | (have H2_ := (Option.bind_some _ _).symm.trans H; rw [hy247]; with_reducible exact H2_) | (have H2_ := (Option.bind_some _ _).symm.trans H; with_reducible exact H2_) | with_reducible exact H | (rw [hy247]; exact H) | exact H
 have Ny247 := aM_ hy247
 clear hy247
 replace H := oB_.mp H
 obtain ⟨t250, A20, H⟩ := H
 try dsimp only at H
 have A2 := aM_ A20
 clear A20
 by_cases c3 : t250 = true
 ·
  subst c3
  rw [if_pos rfl] at H
  have H' := aM_ H
  clear H
  go_enter Tryz.func27, Tryz.ntmps27
  go_wp2_with (first | ((with_reducible refine gD_ (N := 1) rfl ?_); refine bE_ ?hg (N := 1) ?hd (cs := #[.slice A0_0 l0_0.length c0_0]) (t := 30) ?hr ?_; (case hd => rfl); (case hg => rfl); (case hr => (go_simp; done)); intro gb245 hg w4 hbox hb; have BK245 := aM_ (hbox); have GW245 := aM_ ((by rw [hg]; exact (bZ_ HB.out) : w.heap.size ≤ gb245)); have GE245 := GW245; replace HB := aM_ (bT_ HB.out hb); clear hb hbox hg) | ((with_reducible refine gD_ (N := 2) rfl ?_); refine bE_ ?hg (N := 2) ?hd (cs := #[.slice none 0 0]) (t := 36) ?hr ?_; (case hd => rfl); (case hg => rfl); (case hr => (go_simp; done)); intro gb246 hg w5 hbox hb; have BK246 := aM_ (hbox); have GW246 := aM_ ((by rw [hg]; exact (bZ_ HB.out) : w.heap.size ≤ gb246)); have GE246 := GW246; replace HB := aM_ (bT_ HB.out hb); have NB245_246 := aM_ ((by rw [hg]; exact Nat.ne_of_lt (bL_ BK245.out) : gb245 ≠ gb246)); have NB246_245 := aM_ NB245_246.out.symm; replace BK245 := aM_ (bB_ BK245.out hb); clear hb hbox hg) | ((with_reducible refine gD_ (N := 9) rfl ?_); refine Kd.R_lit Kd.string _ 9 ?hg (N := 9) ?hd (xs := ([] : List ByteArray)) (inner := []) (ok := fun _ => True) (okp := fun _ => True) ?hr ?hp (fun _ hk => hk) trivial (Below.refl _ _) (Nat.le_refl _) (by simp) ?_; (case hd => rfl); (case hg => rfl); (case hr => (go_simp; done)); (case hp => exact (Reps.none _ _)); intro v248 w6 ho7 hb hg_ hnew_; clear hg_ hnew_; (rw [← Ny247.out] at ho7); have HO249 := aM_ (k5_ ho7 (bZ_ HB.out)); replace BK245 := aM_ (bB_ BK245.out hb); replace BK246 := aM_ (bB_ BK246.out hb); replace HB := aM_ (bT_ HB.out hb); clear hb ho7; have hnb8 := NB245_246.out; have hnc8 := NB246_245.out; have hcz9_0 : w6.cell? ⟨gb245, 0, none⟩ = some (.slice A0_0 l0_0.length c0_0) := (bC_ BK245.out 0).trans rfl; have hfz9_0 := bF_ BK245.out 0) | ((with_reducible refine gC_ (f := 54) rfl ?_); refine goesL_ (some 13) rfl rfl Tryz.func54 (by kernel_rfl) rfl #[.int .i64 (l0_0.length : Int), .int .i64 1, .int .i64 81] rfl (by (try simp only [sD_, sE_, sF_]); rfl) ?_; (with_reducible refine (spec_l1In.calls (l0_0.length : Int) 1 81 true _ A2.out).mono ?_); rintro e w' ⟨rfl, ⟨nd, rfl⟩⟩; refine ⟨_, rfl, ?_⟩))
  go_loopg [4, 5] k (fun kq v4 v5 w' => ∃ (x4_1 : List ByteArray) (x5_1 : Int), v5 = .int .i64 x5_1 ∧ Aside0 (spec_l4Open.l0 kq x4_1 x5_1 l0_0 = some (r1, r2)) ∧ Aside0 (kq ≤ k) ∧ Aside0 (Kd.R Kd.string 9 w' w.heap.size (fun _ => True) v4 x4_1) ∧ Aside0 (w'.heap[gb245]? = some (.cells #[(.slice A0_0 l0_0.length c0_0)] 30 (0, 0))) ∧ Aside0 (w'.heap[gb246]? = some (.cells #[(.slice none 0 0)] 36 (0, 0))) ∧ Aside0 (Below w.heap.size w w'))
  case atStart => exact ⟨(y247), (0), (by rfl), H', ⟨Nat.le_refl _⟩, ⟨by (with_reducible repeat (first | apply k1_ | apply k2_ | apply k3_)); exact HO249.out⟩, ⟨by (with_reducible repeat (first | refine b2_ ?_ _ | refine b1_ ?_ | refine b3_ ?_ _)); exact BK245.out⟩, ⟨by (with_reducible repeat (first | refine b2_ ?_ _ | refine b1_ ?_ | refine b3_ ?_ _)); exact BK246.out⟩, ⟨by repeat (first | (with_reducible first | exact HB.out | apply bA_ | apply bN_ | apply bD_ | refine bS_ ?_ GE245.out | refine bS_ ?_ GE246.out) | exact HB.out)⟩⟩
  case round =>
   clear H'
   try clear p2
   try clear hcz9_0
   try clear hfz9_0
   obtain ⟨x4_1, x5_1, rfl, HA, HK1, HO_4, BK245, BK246, HB⟩ := hrel
   cases gk with
   | zero => exact absurd HA.out (by simp [spec_l4Open.l0])
   | succ k1 =>
    have H := HA.out
    clear HA
    simp only [spec_l4Open.l0] at H
    by_cases c10 : x5_1 < (l0_0.length : Int)
    ·
     rw [if_pos c10] at H
     have c10b0 := decide_eq_true c10
     clear c10
     by_cases c11 : 0 ≤ x5_1
     ·
      rw [if_pos c11] at H
      have c11b0 := decide_eq_true c11
      clear c11
      obtain ⟨bq12, hbq12⟩ : ∃ b_ : Bool, b_ = ((rd_T60 l0_0 x5_1).f2) := ⟨_, rfl⟩
      replace H : (if bq12 = true then ((spec_l4Prefix.f k1 l0_0 x5_1).bind fun t252 => (if x4_1.length < 8796093022208 then (spec_l4Open.l0 k1 (x4_1 ++ [t252]) (wrap64 (x5_1 + 1)) l0_0) else (none))) else (spec_l4Open.l0 k1 x4_1 (wrap64 (x5_1 + 1)) l0_0)) = some (r1, r2) := by rw [← hbq12] at H; exact H
      have Nbq12 := aM_ hbq12
      clear hbq12
      by_cases c13 : bq12 = true
      ·
       subst c13
       rw [if_pos rfl] at H
       replace H := oB_.mp H
       obtain ⟨t252, A140, H⟩ := H
       try dsimp only at H
       have A14 := aM_ A140
       clear A140
       by_cases c15 : x4_1.length < 8796093022208
       ·
        rw [if_pos c15] at H
        have LMc15 := aM_ c15
        clear c15
        obtain ⟨y253, hy253⟩ : ∃ y_ : List ByteArray, y_ = (x4_1 ++ [t252]) := ⟨_, rfl⟩
        replace H : (spec_l4Open.l0 k1 y253 (wrap64 (x5_1 + 1)) l0_0) = some (r1, r2) := by first | (rw [hy253]; with_reducible exact H) | (have H2_ := (Option.bind_some _ _).symm.trans H; rw [hy253]; with_reducible exact H2_) | (have H2_ := (Option.bind_some _ _).symm.trans H; with_reducible exact H2_) | with_reducible exact H | (rw [hy253]; exact H) | exact H
        have Ny253 := aM_ hy253
        clear hy253
        have H' := aM_ H
        clear H
        have hnb16 := NB245_246.out
        have hnc16 := NB246_245.out
        have hcz17_0 : wr.cell? ⟨gb245, 0, none⟩ = some (.slice A0_0 l0_0.length c0_0) := (bC_ BK245.out 0).trans rfl
        have hfz17_0 := bF_ BK245.out 0
        have p251 : 0 ≤ (x5_1 : Int) := of_decide_eq_true (by (with_reducible assumption))
        have q251 : x5_1 < (l0_0.length : Int) := of_decide_eq_true (by (with_reducible assumption))
        obtain ⟨ad251, e251, hx251_0, hx251_1, hx251_2⟩ := at_T60 HR0_0.out x5_1 p251 q251
        (try rw [← Nbq12.out] at hx251_2)
        cases e251
        replace hx251_0 := (HB.out.cell (wB_ w _ hx251_0)).trans hx251_0
        replace hx251_1 := (HB.out.cell (wB_ w _ hx251_1)).trans hx251_1
        replace hx251_2 := (HB.out.cell (wB_ w _ hx251_2)).trans hx251_2
        replace p251 := eq_true p251
        replace q251 := eq_true q251
        go_wp2_with (first | ((with_reducible refine gC_ (f := 31) rfl ?_); refine goesL_ (some 32) rfl rfl Tryz.func31 (by kernel_rfl) rfl #[.agg #[.slice (some ad251) l0_0.length c0_0], .int .i64 x5_1] rfl (by (try simp only [sD_, sE_, sF_]); rfl) ?_; (with_reducible refine (spec_l4Prefix.calls k1 _ _ l0_0 x5_1 t252 _ ?side1 ?side2 A14.out).mono ?_); (case side1 => repeat (first | exact (k4_ HR0_0.out HB.out) | (with_reducible refine Kd.C_alloc ?_ _) | (with_reducible refine Kd.C_drewN ?_ _) | (with_reducible refine Kd.C_drew ?_))); (case side2 => exact HC0_0.out); rintro e w18 ⟨rfl, hb⟩; refine ⟨_, rfl, ?_⟩; replace HO_4 := aM_ (kB_ HO_4.out hb); replace BK245 := aM_ (bB_ BK245.out hb); replace BK246 := aM_ (bB_ BK246.out hb); replace HB := aM_ (bT_ HB.out hb); (try clear hb)) | ((with_reducible refine gate_builtin (b := .append) (xs := #[.tmp 29, .tmp 33]) rfl ?_); at_builtin; refine Kd.R_append Kd.string (w0 := w) w.heap.size rfl (.tmp 29) (.tmp 33) 49 9 (.string ⟨#[]⟩) 16 rfl Tryz.underlying49 info9 rfl (by decide) (by omega) u4 x4_1 t252 [.string t252] (fun _ => True) (fun _ => False) rfl rfl ?aP (fun _ hk => hk.elim) ?aF ?aO ?aB ?aS ?aL ?_; (case aP => exact rfl); (case aB => exact HB.out); (case aF => exact (fun _ _ => trivial)); (case aO => exact HO_4.out); (case aS => exact (bZ_ HB.out)); (case aL => have := LMc15.out; omega); intro v254 w19 ho hb hg hat; rw [← Ny253.out] at ho; have n0_ := aM_ (blk_grown (g := gb245) (o := .cells #[.slice (some ad251) l0_0.length c0_0] 30 (0, 0)) BK245.out hg (k6_ HO_4.out BK245.out (by decide))); have n1_ := aM_ (blk_grown (g := gb246) (o := .cells #[.slice none 0 0] 36 (0, 0)) BK246.out hg (k6_ HO_4.out BK246.out (by decide))); have n2_ := aM_ (hb); have n3_ := aM_ (ho); clear BK245; clear BK246; clear HB; clear HO_4; have BK245 := n0_; have BK246 := n1_; have HB := n2_; have HO255 := n3_; clear n0_ n1_ n2_ n3_; clear ho hb hg hat))
        go_roundg k1
        case measure => have := HK1.out; omega
        case rel => exact ⟨(y253), (wrap64 (x5_1 + 1)), (by rfl), H', ⟨by have := HK1.out; omega⟩, ⟨HO255.out⟩, ⟨BK245.out⟩, ⟨BK246.out⟩, ⟨HB.out⟩⟩
       ·
        rw [if_neg c15] at H
        exact absurd H (by simp)
      ·
       replace c13 := Bool.eq_false_iff.mpr c13
       subst c13
       have H1 : (spec_l4Open.l0 k1 x4_1 (wrap64 (x5_1 + 1)) l0_0) = some (r1, r2) := by rw [if_neg (show ¬ (false = true) by decide)] at H; exact H
       clear H
       have H := H1
       clear H1
       have H' := aM_ H
       clear H
       have hnb20 := NB245_246.out
       have hnc20 := NB246_245.out
       have hcz21_0 : wr.cell? ⟨gb245, 0, none⟩ = some (.slice A0_0 l0_0.length c0_0) := (bC_ BK245.out 0).trans rfl
       have hfz21_0 := bF_ BK245.out 0
       have p251 : 0 ≤ (x5_1 : Int) := of_decide_eq_true (by (with_reducible assumption))
       have q251 : x5_1 < (l0_0.length : Int) := of_decide_eq_true (by (with_reducible assumption))
       obtain ⟨ad251, e251, hx251_0, hx251_1, hx251_2⟩ := at_T60 HR0_0.out x5_1 p251 q251
       (try rw [← Nbq12.out] at hx251_2)
       cases e251
       replace hx251_0 := (HB.out.cell (wB_ w _ hx251_0)).trans hx251_0
       replace hx251_1 := (HB.out.cell (wB_ w _ hx251_1)).trans hx251_1
       replace hx251_2 := (HB.out.cell (wB_ w _ hx251_2)).trans hx251_2
       replace p251 := eq_true p251
       replace q251 := eq_true q251
       go_wp2
       go_roundg k1
       case measure => have := HK1.out; omega
       case rel => exact ⟨(x4_1), (wrap64 (x5_1 + 1)), (by rfl), H', ⟨by have := HK1.out; omega⟩, ⟨HO_4.out⟩, ⟨BK245.out⟩, ⟨BK246.out⟩, ⟨HB.out⟩⟩
     ·
      rw [if_neg c11] at H
      exact absurd H (by simp)
    ·
     rw [if_neg c10] at H
     have c10b0 := decide_eq_false c10
     clear c10
     replace H := oB_.mp H
     obtain ⟨⟨t256, t257⟩, A220, H⟩ := H
     try dsimp only at H
     have A22 := aM_ A220
     clear A220
     by_cases c23 : t257 = true
     ·
      subst c23
      rw [if_pos rfl] at H
      replace H := oB_.mp H
      obtain ⟨t260, A240, H⟩ := H
      try dsimp only at H
      have A24 := aM_ A240
      clear A240
      replace H := oB_.mp H
      obtain ⟨t264, A250, H⟩ := H
      try dsimp only at H
      have A25 := aM_ A250
      clear A250
      replace H := oB_.mp H
      obtain ⟨t267, A260, H⟩ := H
      try dsimp only at H
      have A26 := aM_ A260
      clear A260
      by_cases c27 : t267 = true
      ·
       subst c27
       rw [if_pos rfl] at H
       simp only [Option.some.injEq, Prod.mk.injEq] at H
       obtain ⟨rfl, rfl⟩ := H
       have hnb28 := NB245_246.out
       have hnc28 := NB246_245.out
       have hcz29_0 : wr.cell? ⟨gb245, 0, none⟩ = some (.slice A0_0 l0_0.length c0_0) := (bC_ BK245.out 0).trans rfl
       have hfz29_0 := bF_ BK245.out 0
       obtain ⟨Ao30, co30, eo30⟩ := kS_ HO_4.out
       subst eo30
       try go_wp2_with (first | ((with_reducible refine gC_ (f := 55) rfl ?_); refine goesL_ (some 37) rfl rfl Tryz.func55 (by kernel_rfl) rfl #[.slice Ao30 x4_1.length co30] rfl (by (try simp only [sD_, sE_, sF_]); rfl) ?_; (with_reducible refine (spec_l2Set.calls k1 _ _ x4_1 t256 true _ ?side1 ?side2 A22.out).mono ?_); (case side1 => repeat (first | exact (kR_ HO_4.out).2.2 | (with_reducible refine Kd.C_alloc ?_ _) | (with_reducible refine Kd.C_drewN ?_ _) | (with_reducible refine Kd.C_drew ?_))); (case side2 => exact (kR_ HO_4.out).2.1); rintro e w31 ⟨v258, rfl, ho0, hb⟩; refine ⟨_, rfl, ?_⟩; have HO259 := aM_ (k5_ (Kd.R_new' ho0 (Kd.R_lt HO_4.out)) (bZ_ HB.out)); replace HO_4 := aM_ (Kd.R_elder' HO_4.out (Kd.R_base ho0) hb); replace BK245 := aM_ (bB_ BK245.out hb); replace BK246 := aM_ (bB_ BK246.out hb); replace HB := aM_ (bT_ HB.out hb); (try clear hb); (try clear ho0); obtain ⟨Ao32, co32, eo32⟩ := kS_ HO259.out; subst eo32) | ((with_reducible refine gC_ (f := 56) rfl ?_); refine goesL_ (some 44) rfl rfl Tryz.func56 (by kernel_rfl) rfl #[.slice Ao32 t256.length co32] rfl (by (try simp only [sD_, sE_, sF_]); rfl) ?_; (with_reducible refine (spec_l2Of.calls k1 _ _ t256 t260 _ ?side1 ?side2 A24.out).mono ?_); (case side1 => repeat (first | exact (kR_ HO259.out).2.2 | (with_reducible refine Kd.C_alloc ?_ _) | (with_reducible refine Kd.C_drewN ?_ _) | (with_reducible refine Kd.C_drew ?_))); (case side2 => exact (kR_ HO259.out).2.1); rintro e w33 ⟨v261, rfl, ho0, hb⟩; refine ⟨_, rfl, ?_⟩; replace HO_4 := aM_ (kB_ HO_4.out hb); replace HO259 := aM_ (kB_ HO259.out hb); have HO262 := aM_ (k5_ ho0 (bZ_ HB.out)); replace BK245 := aM_ (bB_ BK245.out hb); replace BK246 := aM_ (bB_ BK246.out hb); replace HB := aM_ (bT_ HB.out hb); (try clear hb); (try clear ho0)) | ((with_reducible refine gD_ (N := 8) rfl ?_); refine bE_ ?hg (N := 8) ?hd (cs := #[.slice none 0 0]) (t := 36) ?hr ?_; (case hd => rfl); (case hg => rfl); (case hr => (go_simp; done)); intro gb263 hg w34 hbox hb; replace HO_4 := aM_ (kB_ HO_4.out hb); replace HO259 := aM_ (kB_ HO259.out hb); replace HO262 := aM_ (kB_ HO262.out hb); have BK263 := aM_ (hbox); have GW263 := aM_ ((by rw [hg]; exact (bZ_ HB.out) : w.heap.size ≤ gb263)); have GE263 := GW263; replace HB := aM_ (bT_ HB.out hb); have NB245_263 := aM_ ((by rw [hg]; exact Nat.ne_of_lt (bL_ BK245.out) : gb245 ≠ gb263)); have NB263_245 := aM_ NB245_263.out.symm; replace BK245 := aM_ (bB_ BK245.out hb); have NB246_263 := aM_ ((by rw [hg]; exact Nat.ne_of_lt (bL_ BK246.out) : gb246 ≠ gb263)); have NB263_246 := aM_ NB246_263.out.symm; replace BK246 := aM_ (bB_ BK246.out hb); clear hb hbox hg; obtain ⟨Ao35, co35, eo35⟩ := kS_ HO262.out; subst eo35; have hnb36 := NB263_245.out; have hnc36 := NB245_263.out; have hnb37 := NB263_246.out; have hnc37 := NB246_263.out; have hcz38_0 : w34.cell? ⟨gb263, 0, none⟩ = some (.slice none 0 0) := (bC_ BK263.out 0).trans rfl; have hfz38_0 := bF_ BK263.out 0))
       have n0_ : Aside0 (Kd.R Kd.string 9 (w34.setCell ⟨gb263, 0, none⟩ (.slice Ao35 t260.length co35)) w.heap.size (fun k_ => some k_ ≠ (.slice Ao32 t256.length co32 : Value).ownBlock) (.slice Ao30 x4_1.length co30) x4_1) := ⟨by exact kM_ (kF_ (p := ⟨gb263, 0, none⟩) (kT_ HO_4.out BK263.out (by decide)) (fun _ hk => hk.2) (.slice Ao35 t260.length co35)) (fun _ hk => hk.1.2)⟩
       have n1_ : Aside0 (Kd.R Kd.string 9 (w34.setCell ⟨gb263, 0, none⟩ (.slice Ao35 t260.length co35)) w.heap.size (fun k_ => some k_ ≠ (.slice Ao30 x4_1.length co30 : Value).ownBlock) (.slice Ao32 t256.length co32) t256) := ⟨by exact kM_ (kF_ (p := ⟨gb263, 0, none⟩) (kT_ HO259.out BK263.out (by decide)) (fun _ hk => hk.2) (.slice Ao35 t260.length co35)) (fun _ hk => hk.1.2)⟩
       have n2_ : Aside0 (Kd.R k76 76 (w34.setCell ⟨gb263, 0, none⟩ (.slice Ao35 t260.length co35)) w.heap.size (fun _ => True) (.slice Ao35 t260.length co35) t260) := ⟨by exact kM_ (kF_ (p := ⟨gb263, 0, none⟩) (kT_ HO262.out BK263.out (by decide)) (fun _ hk => hk.2) (.slice Ao35 t260.length co35)) (fun _ hk => trivial)⟩
       have n3_ : Aside0 ((w34.setCell ⟨gb263, 0, none⟩ (.slice Ao35 t260.length co35)).heap[gb245]? = some (.cells #[.slice A0_0 l0_0.length c0_0] 30 (0, 0))) := ⟨by refine bR_ ?_ NB245_263.out _; exact BK245.out⟩
       have n4_ : Aside0 ((w34.setCell ⟨gb263, 0, none⟩ (.slice Ao35 t260.length co35)).heap[gb246]? = some (.cells #[.slice none 0 0] 36 (0, 0))) := ⟨by refine bR_ ?_ NB246_263.out _; exact BK246.out⟩
       have n5_ : Aside0 ((w34.setCell ⟨gb263, 0, none⟩ (.slice Ao35 t260.length co35)).heap[gb263]? = some (.cells #[.slice Ao35 t260.length co35] 36 (0, 0))) := ⟨by refine bP_ (cs := #[.slice none 0 0]) ?_ 0 _ rfl; exact BK263.out⟩
       have n6_ : Aside0 (Below w.heap.size w (w34.setCell ⟨gb263, 0, none⟩ (.slice Ao35 t260.length co35))) := ⟨by repeat (first | (with_reducible first | exact HB.out | apply bA_ | apply bN_ | apply bD_ | refine bS_ ?_ GE245.out | refine bS_ ?_ GE246.out | refine bS_ ?_ GE263.out) | exact HB.out)⟩
       (try clear HO_4)
       (try clear HO259)
       (try clear HO262)
       (try clear BK245)
       (try clear BK246)
       (try clear BK263)
       (try clear HB)
       generalize (w34.setCell ⟨gb263, 0, none⟩ (.slice Ao35 t260.length co35)) = w39 at n0_ n1_ n2_ n3_ n4_ n5_ n6_ ⊢
       have HO_4 := n0_
       have HO259 := n1_
       have HO262 := n2_
       have BK245 := n3_
       have BK246 := n4_
       have BK263 := n5_
       have HB := n6_
       clear n0_ n1_ n2_ n3_ n4_ n5_ n6_
       have n0_ := aM_ (k3_ HO_4.out)
       have n1_ := aM_ (k3_ HO259.out)
       have n2_ := aM_ (k3_ HO262.out)
       have n3_ := aM_ (b1_ BK245.out)
       have n4_ := aM_ (b1_ BK246.out)
       have n5_ := aM_ (b1_ BK263.out)
       have n6_ := aM_ (bD_ HB.out)
       clear HO_4
       clear HO259
       clear HO262
       clear BK245
       clear BK246
       clear BK263
       clear HB
       have HO_4 := n0_
       have HO259 := n1_
       have HO262 := n2_
       have BK245 := n3_
       have BK246 := n4_
       have BK263 := n5_
       have HB := n6_
       clear n0_ n1_ n2_ n3_ n4_ n5_ n6_
       refine start_ (n := 5) (S := fun w' => w'.cell? ⟨gb263, 0, none⟩ = some (.slice Ao35 t260.length co35) ∧ w'.cell? ⟨gb245, 0, none⟩ = some (.slice A0_0 l0_0.length c0_0)) (ds := []) #[fy, fy, fy, fy, fy] (by kernel_rfl) rfl rfl ⟨(bC_ BK263.out 0).trans rfl, (bC_ BK245.out 0).trans rfl⟩ (fun hHeld => ?_)
       generalize w39.drew = w40 at HO_4 HO259 HO262 BK245 BK246 BK263 HB hHeld ⊢
       refine take_ (i := 0) (N := some 45) (v := ?_) (a' := ?_) #[ty, fy, fy, fy, fy] rfl rfl (by kernel_rfl) (fun _ _ _ h => h) (Or.inl ⟨by rfl, ?_⟩) hHeld ?_ ?_; rotate_left; (rintro w' ⟨s0, s1⟩; go_simp; with_reducible rfl); rotate_left; (simp only [Act.put, sA_, sB_, sC_, i6_, i3_]; rfl)
       refine take_ (i := 2) (N := some 47) (v := ?_) (a' := ?_) #[ty, fy, ty, fy, fy] rfl rfl (by kernel_rfl) (fun _ _ _ h => h) (Or.inl ⟨by rfl, ?_⟩) hHeld ?_ ?_; rotate_left; (rintro w' ⟨s0, s1⟩; go_simp; with_reducible rfl); rotate_left; (simp only [Act.put, sA_, sB_, sC_, i6_, i3_]; rfl)
       refine one_ (i := 1) (N := some 46) #[ty, ty, ty, fy, fy] rfl rfl (by kernel_rfl) (by decide) (fun K hK => ?_)
       refine goes_ Tryz.func47 (by kernel_rfl) rfl #[.agg #[.slice Ao35 t260.length co35]] (by rfl) rfl rfl (by (try simp only [sD_, sE_, sF_]); rfl) ?_
       with_reducible refine (spec_l4Press.calls k1 _ _ t260 t264 _ ?side1 ?side2 A25.out).mono ?_
       (case side1 => repeat (first | exact (kR_ HO262.out).2.2 | (with_reducible refine Kd.C_alloc ?_ _) | (with_reducible refine Kd.C_drewN ?_ _) | (with_reducible refine Kd.C_drew ?_)))
       (case side2 => exact (kR_ HO262.out).2.1)
       rintro e w41 ⟨v265, rfl, ho0, hb⟩
       refine ⟨_, rfl, ?_⟩
       have n0_ := aM_ (kB_ HO_4.out hb)
       have n1_ := aM_ (kB_ HO259.out hb)
       have n2_ := aM_ (kB_ HO262.out hb)
       have n3_ := aM_ (k5_ ho0 (bZ_ HB.out))
       have n4_ := aM_ (bB_ BK245.out hb)
       have n5_ := aM_ (bB_ BK246.out hb)
       have n6_ := aM_ (bB_ BK263.out hb)
       have n7_ := aM_ (bT_ HB.out hb)
       clear HO_4
       clear HO259
       clear HO262
       clear BK245
       clear BK246
       clear BK263
       clear HB
       have HO_4 := n0_
       have HO259 := n1_
       have HO262 := n2_
       have HO266 := n3_
       have BK245 := n4_
       have BK246 := n5_
       have BK263 := n6_
       have HB := n7_
       clear n0_ n1_ n2_ n3_ n4_ n5_ n6_ n7_
       (try clear hb)
       (try clear ho0)
       obtain ⟨Ao42, co42, eo42⟩ := kS_ HO266.out
       (subst eo42)
       refine hK.out _ _ ⟨(bC_ BK263.out 0).trans rfl, (bC_ BK245.out 0).trans rfl⟩ (fun hHeld => ?_)
       clear hK K
       refine norm_ (a' := ?_) ?_ ?_; rotate_left; (show Act.put _ (some 46) _ = _; simp only [Act.put, sA_, sB_, sC_, i6_, i3_]; rfl)
       refine one_ (i := 3) (N := some 48) #[ty, ty, ty, ty, fy] rfl rfl (by kernel_rfl) (by decide) (fun K hK => ?_)
       refine goes_ Tryz.func57 (by kernel_rfl) rfl #[.agg #[.slice Ao42 t264.length co42], .agg #[.slice A0_0 l0_0.length c0_0]] (by rfl) rfl rfl (by (try simp only [sD_, sE_, sF_]); rfl) ?_
       with_reducible refine (spec_l4Same.calls k1 _ _ t264 _ _ l0_0 true _ ?side1 ?side2 ?side3 ?side4 A26.out).mono ?_
       (case side1 => repeat (first | exact (kR_ HO266.out).2.2 | (with_reducible refine Kd.C_alloc ?_ _) | (with_reducible refine Kd.C_drewN ?_ _) | (with_reducible refine Kd.C_drew ?_)))
       (case side2 => exact (kR_ HO266.out).2.1)
       (case side3 => repeat (first | exact (k4_ HR0_0.out HB.out) | (with_reducible refine Kd.C_alloc ?_ _) | (with_reducible refine Kd.C_drewN ?_ _) | (with_reducible refine Kd.C_drew ?_)))
       (case side4 => exact HC0_0.out)
       rintro e w43 ⟨rfl, hb⟩
       refine ⟨_, rfl, ?_⟩
       have n0_ := aM_ (kB_ HO_4.out hb)
       have n1_ := aM_ (kB_ HO259.out hb)
       have n2_ := aM_ (kB_ HO262.out hb)
       have n3_ := aM_ (kB_ HO266.out hb)
       have n4_ := aM_ (bB_ BK245.out hb)
       have n5_ := aM_ (bB_ BK246.out hb)
       have n6_ := aM_ (bB_ BK263.out hb)
       have n7_ := aM_ (bT_ HB.out hb)
       clear HO_4
       clear HO259
       clear HO262
       clear HO266
       clear BK245
       clear BK246
       clear BK263
       clear HB
       have HO_4 := n0_
       have HO259 := n1_
       have HO262 := n2_
       have HO266 := n3_
       have BK245 := n4_
       have BK246 := n5_
       have BK263 := n6_
       have HB := n7_
       clear n0_ n1_ n2_ n3_ n4_ n5_ n6_ n7_
       (try clear hb)
       refine hK.out _ _ ⟨(bC_ BK263.out 0).trans rfl, (bC_ BK245.out 0).trans rfl⟩ (fun hHeld => ?_)
       clear hK K
       refine norm_ (a' := ?_) ?_ ?_; rotate_left; (show Act.put _ (some 48) _ = _; simp only [Act.put, sA_, sB_, sC_, i6_, i3_]; rfl)
       refine pure_ (i := 4) (N := some 49) (v := ?_) (a' := ?_) #[ty, ty, ty, ty, ty] rfl rfl (by kernel_rfl) (fun _ _ _ h => h) (Or.inl ⟨by rfl, ?_⟩) ?_ ?_; rotate_left; (intro w'; go_simp; with_reducible rfl); rotate_left; (simp only [Act.put, sA_, sB_, sC_, i6_, i3_]; rfl)
       refine done_ (by kernel_rfl) ?_
       have hcz44_0 : w43.cell? ⟨gb263, 0, none⟩ = some (.slice Ao35 t260.length co35) := (bC_ BK263.out 0).trans rfl
       have hfz44_0 := bF_ BK263.out 0
       have hcz45_0 : w43.cell? ⟨gb246, 0, none⟩ = some (.slice none 0 0) := (bC_ BK246.out 0).trans rfl
       have hfz45_0 := bF_ BK246.out 0
       try go_wp2
       refine bodyPost_ret (results_ct rfl _ _ gb246 36 #[.slice Ao35 t260.length co35] (0, 0) _ rfl (by refine bP_ (cs := #[.slice none 0 0]) ?_ 0 _ rfl; exact BK246.out) Tryz.underlying36 rfl (by kernel_rfl)) rfl ?_
       exact ⟨_, by rfl, by exact kM_ (kF_ (p := ⟨gb246, 0, none⟩) (kT_ HO262.out BK246.out (by decide)) (fun _ hk => hk.2) (.slice Ao35 t260.length co35)) (fun _ hk => trivial), by repeat (first | (with_reducible first | exact HB.out | apply bA_ | apply bN_ | apply bD_ | refine bS_ ?_ GE245.out | refine bS_ ?_ GE246.out | refine bS_ ?_ GE263.out) | exact HB.out)⟩
      ·
       replace c27 := Bool.eq_false_iff.mpr c27
       subst c27
       have H1 : (some (([] : List (S76)), false)) = some (r1, r2) := by rw [if_neg (show ¬ (false = true) by decide)] at H; exact H
       clear H
       have H := H1
       clear H1
       simp only [Option.some.injEq, Prod.mk.injEq] at H
       obtain ⟨rfl, rfl⟩ := H
       have hnb46 := NB245_246.out
       have hnc46 := NB246_245.out
       have hcz47_0 : wr.cell? ⟨gb245, 0, none⟩ = some (.slice A0_0 l0_0.length c0_0) := (bC_ BK245.out 0).trans rfl
       have hfz47_0 := bF_ BK245.out 0
       obtain ⟨Ao48, co48, eo48⟩ := kS_ HO_4.out
       subst eo48
       try go_wp2_with (first | ((with_reducible refine gC_ (f := 55) rfl ?_); refine goesL_ (some 37) rfl rfl Tryz.func55 (by kernel_rfl) rfl #[.slice Ao48 x4_1.length co48] rfl (by (try simp only [sD_, sE_, sF_]); rfl) ?_; (with_reducible refine (spec_l2Set.calls k1 _ _ x4_1 t256 true _ ?side1 ?side2 A22.out).mono ?_); (case side1 => repeat (first | exact (kR_ HO_4.out).2.2 | (with_reducible refine Kd.C_alloc ?_ _) | (with_reducible refine Kd.C_drewN ?_ _) | (with_reducible refine Kd.C_drew ?_))); (case side2 => exact (kR_ HO_4.out).2.1); rintro e w49 ⟨v258, rfl, ho0, hb⟩; refine ⟨_, rfl, ?_⟩; have HO259 := aM_ (k5_ (Kd.R_new' ho0 (Kd.R_lt HO_4.out)) (bZ_ HB.out)); replace HO_4 := aM_ (Kd.R_elder' HO_4.out (Kd.R_base ho0) hb); replace BK245 := aM_ (bB_ BK245.out hb); replace BK246 := aM_ (bB_ BK246.out hb); replace HB := aM_ (bT_ HB.out hb); (try clear hb); (try clear ho0); obtain ⟨Ao50, co50, eo50⟩ := kS_ HO259.out; subst eo50) | ((with_reducible refine gC_ (f := 56) rfl ?_); refine goesL_ (some 44) rfl rfl Tryz.func56 (by kernel_rfl) rfl #[.slice Ao50 t256.length co50] rfl (by (try simp only [sD_, sE_, sF_]); rfl) ?_; (with_reducible refine (spec_l2Of.calls k1 _ _ t256 t260 _ ?side1 ?side2 A24.out).mono ?_); (case side1 => repeat (first | exact (kR_ HO259.out).2.2 | (with_reducible refine Kd.C_alloc ?_ _) | (with_reducible refine Kd.C_drewN ?_ _) | (with_reducible refine Kd.C_drew ?_))); (case side2 => exact (kR_ HO259.out).2.1); rintro e w51 ⟨v261, rfl, ho0, hb⟩; refine ⟨_, rfl, ?_⟩; replace HO_4 := aM_ (kB_ HO_4.out hb); replace HO259 := aM_ (kB_ HO259.out hb); have HO262 := aM_ (k5_ ho0 (bZ_ HB.out)); replace BK245 := aM_ (bB_ BK245.out hb); replace BK246 := aM_ (bB_ BK246.out hb); replace HB := aM_ (bT_ HB.out hb); (try clear hb); (try clear ho0)) | ((with_reducible refine gD_ (N := 8) rfl ?_); refine bE_ ?hg (N := 8) ?hd (cs := #[.slice none 0 0]) (t := 36) ?hr ?_; (case hd => rfl); (case hg => rfl); (case hr => (go_simp; done)); intro gb263 hg w52 hbox hb; replace HO_4 := aM_ (kB_ HO_4.out hb); replace HO259 := aM_ (kB_ HO259.out hb); replace HO262 := aM_ (kB_ HO262.out hb); have BK263 := aM_ (hbox); have GW263 := aM_ ((by rw [hg]; exact (bZ_ HB.out) : w.heap.size ≤ gb263)); have GE263 := GW263; replace HB := aM_ (bT_ HB.out hb); have NB245_263 := aM_ ((by rw [hg]; exact Nat.ne_of_lt (bL_ BK245.out) : gb245 ≠ gb263)); have NB263_245 := aM_ NB245_263.out.symm; replace BK245 := aM_ (bB_ BK245.out hb); have NB246_263 := aM_ ((by rw [hg]; exact Nat.ne_of_lt (bL_ BK246.out) : gb246 ≠ gb263)); have NB263_246 := aM_ NB246_263.out.symm; replace BK246 := aM_ (bB_ BK246.out hb); clear hb hbox hg; obtain ⟨Ao53, co53, eo53⟩ := kS_ HO262.out; subst eo53; have hnb54 := NB263_245.out; have hnc54 := NB245_263.out; have hnb55 := NB263_246.out; have hnc55 := NB246_263.out; have hcz56_0 : w52.cell? ⟨gb263, 0, none⟩ = some (.slice none 0 0) := (bC_ BK263.out 0).trans rfl; have hfz56_0 := bF_ BK263.out 0))
       have n0_ : Aside0 (Kd.R Kd.string 9 (w52.setCell ⟨gb263, 0, none⟩ (.slice Ao53 t260.length co53)) w.heap.size (fun k_ => some k_ ≠ (.slice Ao50 t256.length co50 : Value).ownBlock) (.slice Ao48 x4_1.length co48) x4_1) := ⟨by exact kM_ (kF_ (p := ⟨gb263, 0, none⟩) (kT_ HO_4.out BK263.out (by decide)) (fun _ hk => hk.2) (.slice Ao53 t260.length co53)) (fun _ hk => hk.1.2)⟩
       have n1_ : Aside0 (Kd.R Kd.string 9 (w52.setCell ⟨gb263, 0, none⟩ (.slice Ao53 t260.length co53)) w.heap.size (fun k_ => some k_ ≠ (.slice Ao48 x4_1.length co48 : Value).ownBlock) (.slice Ao50 t256.length co50) t256) := ⟨by exact kM_ (kF_ (p := ⟨gb263, 0, none⟩) (kT_ HO259.out BK263.out (by decide)) (fun _ hk => hk.2) (.slice Ao53 t260.length co53)) (fun _ hk => hk.1.2)⟩
       have n2_ : Aside0 (Kd.R k76 76 (w52.setCell ⟨gb263, 0, none⟩ (.slice Ao53 t260.length co53)) w.heap.size (fun _ => True) (.slice Ao53 t260.length co53) t260) := ⟨by exact kM_ (kF_ (p := ⟨gb263, 0, none⟩) (kT_ HO262.out BK263.out (by decide)) (fun _ hk => hk.2) (.slice Ao53 t260.length co53)) (fun _ hk => trivial)⟩
       have n3_ : Aside0 ((w52.setCell ⟨gb263, 0, none⟩ (.slice Ao53 t260.length co53)).heap[gb245]? = some (.cells #[.slice A0_0 l0_0.length c0_0] 30 (0, 0))) := ⟨by refine bR_ ?_ NB245_263.out _; exact BK245.out⟩
       have n4_ : Aside0 ((w52.setCell ⟨gb263, 0, none⟩ (.slice Ao53 t260.length co53)).heap[gb246]? = some (.cells #[.slice none 0 0] 36 (0, 0))) := ⟨by refine bR_ ?_ NB246_263.out _; exact BK246.out⟩
       have n5_ : Aside0 ((w52.setCell ⟨gb263, 0, none⟩ (.slice Ao53 t260.length co53)).heap[gb263]? = some (.cells #[.slice Ao53 t260.length co53] 36 (0, 0))) := ⟨by refine bP_ (cs := #[.slice none 0 0]) ?_ 0 _ rfl; exact BK263.out⟩
       have n6_ : Aside0 (Below w.heap.size w (w52.setCell ⟨gb263, 0, none⟩ (.slice Ao53 t260.length co53))) := ⟨by repeat (first | (with_reducible first | exact HB.out | apply bA_ | apply bN_ | apply bD_ | refine bS_ ?_ GE245.out | refine bS_ ?_ GE246.out | refine bS_ ?_ GE263.out) | exact HB.out)⟩
       (try clear HO_4)
       (try clear HO259)
       (try clear HO262)
       (try clear BK245)
       (try clear BK246)
       (try clear BK263)
       (try clear HB)
       generalize (w52.setCell ⟨gb263, 0, none⟩ (.slice Ao53 t260.length co53)) = w57 at n0_ n1_ n2_ n3_ n4_ n5_ n6_ ⊢
       have HO_4 := n0_
       have HO259 := n1_
       have HO262 := n2_
       have BK245 := n3_
       have BK246 := n4_
       have BK263 := n5_
       have HB := n6_
       clear n0_ n1_ n2_ n3_ n4_ n5_ n6_
       have n0_ := aM_ (k3_ HO_4.out)
       have n1_ := aM_ (k3_ HO259.out)
       have n2_ := aM_ (k3_ HO262.out)
       have n3_ := aM_ (b1_ BK245.out)
       have n4_ := aM_ (b1_ BK246.out)
       have n5_ := aM_ (b1_ BK263.out)
       have n6_ := aM_ (bD_ HB.out)
       clear HO_4
       clear HO259
       clear HO262
       clear BK245
       clear BK246
       clear BK263
       clear HB
       have HO_4 := n0_
       have HO259 := n1_
       have HO262 := n2_
       have BK245 := n3_
       have BK246 := n4_
       have BK263 := n5_
       have HB := n6_
       clear n0_ n1_ n2_ n3_ n4_ n5_ n6_
       refine start_ (n := 5) (S := fun w' => w'.cell? ⟨gb263, 0, none⟩ = some (.slice Ao53 t260.length co53) ∧ w'.cell? ⟨gb245, 0, none⟩ = some (.slice A0_0 l0_0.length c0_0)) (ds := []) #[fy, fy, fy, fy, fy] (by kernel_rfl) rfl rfl ⟨(bC_ BK263.out 0).trans rfl, (bC_ BK245.out 0).trans rfl⟩ (fun hHeld => ?_)
       generalize w57.drew = w58 at HO_4 HO259 HO262 BK245 BK246 BK263 HB hHeld ⊢
       refine take_ (i := 0) (N := some 45) (v := ?_) (a' := ?_) #[ty, fy, fy, fy, fy] rfl rfl (by kernel_rfl) (fun _ _ _ h => h) (Or.inl ⟨by rfl, ?_⟩) hHeld ?_ ?_; rotate_left; (rintro w' ⟨s0, s1⟩; go_simp; with_reducible rfl); rotate_left; (simp only [Act.put, sA_, sB_, sC_, i6_, i3_]; rfl)
       refine take_ (i := 2) (N := some 47) (v := ?_) (a' := ?_) #[ty, fy, ty, fy, fy] rfl rfl (by kernel_rfl) (fun _ _ _ h => h) (Or.inl ⟨by rfl, ?_⟩) hHeld ?_ ?_; rotate_left; (rintro w' ⟨s0, s1⟩; go_simp; with_reducible rfl); rotate_left; (simp only [Act.put, sA_, sB_, sC_, i6_, i3_]; rfl)
       refine one_ (i := 1) (N := some 46) #[ty, ty, ty, fy, fy] rfl rfl (by kernel_rfl) (by decide) (fun K hK => ?_)
       refine goes_ Tryz.func47 (by kernel_rfl) rfl #[.agg #[.slice Ao53 t260.length co53]] (by rfl) rfl rfl (by (try simp only [sD_, sE_, sF_]); rfl) ?_
       with_reducible refine (spec_l4Press.calls k1 _ _ t260 t264 _ ?side1 ?side2 A25.out).mono ?_
       (case side1 => repeat (first | exact (kR_ HO262.out).2.2 | (with_reducible refine Kd.C_alloc ?_ _) | (with_reducible refine Kd.C_drewN ?_ _) | (with_reducible refine Kd.C_drew ?_)))
       (case side2 => exact (kR_ HO262.out).2.1)
       rintro e w59 ⟨v265, rfl, ho0, hb⟩
       refine ⟨_, rfl, ?_⟩
       have n0_ := aM_ (kB_ HO_4.out hb)
       have n1_ := aM_ (kB_ HO259.out hb)
       have n2_ := aM_ (kB_ HO262.out hb)
       have n3_ := aM_ (k5_ ho0 (bZ_ HB.out))
       have n4_ := aM_ (bB_ BK245.out hb)
       have n5_ := aM_ (bB_ BK246.out hb)
       have n6_ := aM_ (bB_ BK263.out hb)
       have n7_ := aM_ (bT_ HB.out hb)
       clear HO_4
       clear HO259
       clear HO262
       clear BK245
       clear BK246
       clear BK263
       clear HB
       have HO_4 := n0_
       have HO259 := n1_
       have HO262 := n2_
       have HO266 := n3_
       have BK245 := n4_
       have BK246 := n5_
       have BK263 := n6_
       have HB := n7_
       clear n0_ n1_ n2_ n3_ n4_ n5_ n6_ n7_
       (try clear hb)
       (try clear ho0)
       obtain ⟨Ao60, co60, eo60⟩ := kS_ HO266.out
       (subst eo60)
       refine hK.out _ _ ⟨(bC_ BK263.out 0).trans rfl, (bC_ BK245.out 0).trans rfl⟩ (fun hHeld => ?_)
       clear hK K
       refine norm_ (a' := ?_) ?_ ?_; rotate_left; (show Act.put _ (some 46) _ = _; simp only [Act.put, sA_, sB_, sC_, i6_, i3_]; rfl)
       refine one_ (i := 3) (N := some 48) #[ty, ty, ty, ty, fy] rfl rfl (by kernel_rfl) (by decide) (fun K hK => ?_)
       refine goes_ Tryz.func57 (by kernel_rfl) rfl #[.agg #[.slice Ao60 t264.length co60], .agg #[.slice A0_0 l0_0.length c0_0]] (by rfl) rfl rfl (by (try simp only [sD_, sE_, sF_]); rfl) ?_
       with_reducible refine (spec_l4Same.calls k1 _ _ t264 _ _ l0_0 false _ ?side1 ?side2 ?side3 ?side4 A26.out).mono ?_
       (case side1 => repeat (first | exact (kR_ HO266.out).2.2 | (with_reducible refine Kd.C_alloc ?_ _) | (with_reducible refine Kd.C_drewN ?_ _) | (with_reducible refine Kd.C_drew ?_)))
       (case side2 => exact (kR_ HO266.out).2.1)
       (case side3 => repeat (first | exact (k4_ HR0_0.out HB.out) | (with_reducible refine Kd.C_alloc ?_ _) | (with_reducible refine Kd.C_drewN ?_ _) | (with_reducible refine Kd.C_drew ?_)))
       (case side4 => exact HC0_0.out)
       rintro e w61 ⟨rfl, hb⟩
       refine ⟨_, rfl, ?_⟩
       have n0_ := aM_ (kB_ HO_4.out hb)
       have n1_ := aM_ (kB_ HO259.out hb)
       have n2_ := aM_ (kB_ HO262.out hb)
       have n3_ := aM_ (kB_ HO266.out hb)
       have n4_ := aM_ (bB_ BK245.out hb)
       have n5_ := aM_ (bB_ BK246.out hb)
       have n6_ := aM_ (bB_ BK263.out hb)
       have n7_ := aM_ (bT_ HB.out hb)
       clear HO_4
       clear HO259
       clear HO262
       clear HO266
       clear BK245
       clear BK246
       clear BK263
       clear HB
       have HO_4 := n0_
       have HO259 := n1_
       have HO262 := n2_
       have HO266 := n3_
       have BK245 := n4_
       have BK246 := n5_
       have BK263 := n6_
       have HB := n7_
       clear n0_ n1_ n2_ n3_ n4_ n5_ n6_ n7_
       (try clear hb)
       refine hK.out _ _ ⟨(bC_ BK263.out 0).trans rfl, (bC_ BK245.out 0).trans rfl⟩ (fun hHeld => ?_)
       clear hK K
       refine norm_ (a' := ?_) ?_ ?_; rotate_left; (show Act.put _ (some 48) _ = _; simp only [Act.put, sA_, sB_, sC_, i6_, i3_]; rfl)
       refine pure_ (i := 4) (N := some 49) (v := ?_) (a' := ?_) #[ty, ty, ty, ty, ty] rfl rfl (by kernel_rfl) (fun _ _ _ h => h) (Or.inl ⟨by rfl, ?_⟩) ?_ ?_; rotate_left; (intro w'; go_simp; with_reducible rfl); rotate_left; (simp only [Act.put, sA_, sB_, sC_, i6_, i3_]; rfl)
       refine done_ (by kernel_rfl) ?_
       have hcz62_0 : w61.cell? ⟨gb246, 0, none⟩ = some (.slice none 0 0) := (bC_ BK246.out 0).trans rfl
       have hfz62_0 := bF_ BK246.out 0
       try go_wp2
       refine bodyPost_ret (results_ct rfl _ _ gb246 36 #[.slice none 0 0] (0, 0) _ rfl (by refine bP_ (cs := #[.slice none 0 0]) ?_ 0 _ rfl; exact BK246.out) Tryz.underlying36 rfl (by kernel_rfl)) rfl ?_
       exact ⟨_, by rfl, by exact Kd.R_nil _ _ _ _ _, by repeat (first | (with_reducible first | exact HB.out | apply bA_ | apply bN_ | apply bD_ | refine bS_ ?_ GE245.out | refine bS_ ?_ GE246.out | refine bS_ ?_ GE263.out) | exact HB.out)⟩
     ·
      replace c23 := Bool.eq_false_iff.mpr c23
      subst c23
      have H1 : (some (([] : List (S76)), false)) = some (r1, r2) := by rw [if_neg (show ¬ (false = true) by decide)] at H; exact H
      clear H
      have H := H1
      clear H1
      simp only [Option.some.injEq, Prod.mk.injEq] at H
      obtain ⟨rfl, rfl⟩ := H
      have hnb63 := NB245_246.out
      have hnc63 := NB246_245.out
      have hcz64_0 : wr.cell? ⟨gb245, 0, none⟩ = some (.slice A0_0 l0_0.length c0_0) := (bC_ BK245.out 0).trans rfl
      have hfz64_0 := bF_ BK245.out 0
      obtain ⟨Ao65, co65, eo65⟩ := kS_ HO_4.out
      subst eo65
      go_wp2_with (first | ((with_reducible refine gC_ (f := 55) rfl ?_); refine goesL_ (some 37) rfl rfl Tryz.func55 (by kernel_rfl) rfl #[.slice Ao65 x4_1.length co65] rfl (by (try simp only [sD_, sE_, sF_]); rfl) ?_; (with_reducible refine (spec_l2Set.calls k1 _ _ x4_1 t256 false _ ?side1 ?side2 A22.out).mono ?_); (case side1 => repeat (first | exact (kR_ HO_4.out).2.2 | (with_reducible refine Kd.C_alloc ?_ _) | (with_reducible refine Kd.C_drewN ?_ _) | (with_reducible refine Kd.C_drew ?_))); (case side2 => exact (kR_ HO_4.out).2.1); rintro e w66 ⟨v258, rfl, ho0, hb⟩; refine ⟨_, rfl, ?_⟩; have HO259 := aM_ (k5_ (Kd.R_new' ho0 (Kd.R_lt HO_4.out)) (bZ_ HB.out)); replace HO_4 := aM_ (Kd.R_elder' HO_4.out (Kd.R_base ho0) hb); replace BK245 := aM_ (bB_ BK245.out hb); replace BK246 := aM_ (bB_ BK246.out hb); replace HB := aM_ (bT_ HB.out hb); (try clear hb); (try clear ho0); have hcz67_0 : w66.cell? ⟨gb246, 0, none⟩ = some (.slice none 0 0) := (bC_ BK246.out 0).trans rfl; have hfz67_0 := bF_ BK246.out 0))
      refine bodyPost_ret (results_ct rfl _ _ gb246 36 #[.slice none 0 0] (0, 0) _ rfl (by refine bP_ (cs := #[.slice none 0 0]) ?_ 0 _ rfl; exact BK246.out) Tryz.underlying36 rfl (by kernel_rfl)) rfl ?_
      exact ⟨_, by rfl, by exact Kd.R_nil _ _ _ _ _, by repeat (first | (with_reducible first | exact HB.out | apply bA_ | apply bN_ | apply bD_ | refine bS_ ?_ GE245.out | refine bS_ ?_ GE246.out) | exact HB.out)⟩
 ·
  replace c3 := Bool.eq_false_iff.mpr c3
  subst c3
  have H1 : (some (([] : List (S76)), false)) = some (r1, r2) := by rw [if_neg (show ¬ (false = true) by decide)] at H; exact H
  clear H
  have H := H1
  clear H1
  simp only [Option.some.injEq, Prod.mk.injEq] at H
  obtain ⟨rfl, rfl⟩ := H
  go_enter Tryz.func27, Tryz.ntmps27
  go_wp2_with (first | ((with_reducible refine gD_ (N := 1) rfl ?_); refine bE_ ?hg (N := 1) ?hd (cs := #[.slice A0_0 l0_0.length c0_0]) (t := 30) ?hr ?_; (case hd => rfl); (case hg => rfl); (case hr => (go_simp; done)); intro gb245 hg w68 hbox hb; have BK245 := aM_ (hbox); have GW245 := aM_ ((by rw [hg]; exact (bZ_ HB.out) : w.heap.size ≤ gb245)); have GE245 := GW245; replace HB := aM_ (bT_ HB.out hb); clear hb hbox hg) | ((with_reducible refine gD_ (N := 2) rfl ?_); refine bE_ ?hg (N := 2) ?hd (cs := #[.slice none 0 0]) (t := 36) ?hr ?_; (case hd => rfl); (case hg => rfl); (case hr => (go_simp; done)); intro gb246 hg w69 hbox hb; have BK246 := aM_ (hbox); have GW246 := aM_ ((by rw [hg]; exact (bZ_ HB.out) : w.heap.size ≤ gb246)); have GE246 := GW246; replace HB := aM_ (bT_ HB.out hb); have NB245_246 := aM_ ((by rw [hg]; exact Nat.ne_of_lt (bL_ BK245.out) : gb245 ≠ gb246)); have NB246_245 := aM_ NB245_246.out.symm; replace BK245 := aM_ (bB_ BK245.out hb); clear hb hbox hg) | ((with_reducible refine gD_ (N := 9) rfl ?_); refine Kd.R_lit Kd.string _ 9 ?hg (N := 9) ?hd (xs := ([] : List ByteArray)) (inner := []) (ok := fun _ => True) (okp := fun _ => True) ?hr ?hp (fun _ hk => hk) trivial (Below.refl _ _) (Nat.le_refl _) (by simp) ?_; (case hd => rfl); (case hg => rfl); (case hr => (go_simp; done)); (case hp => exact (Reps.none _ _)); intro v248 w70 ho71 hb hg_ hnew_; clear hg_ hnew_; (rw [← Ny247.out] at ho71); have HO249 := aM_ (k5_ ho71 (bZ_ HB.out)); replace BK245 := aM_ (bB_ BK245.out hb); replace BK246 := aM_ (bB_ BK246.out hb); replace HB := aM_ (bT_ HB.out hb); clear hb ho71; have hnb72 := NB245_246.out; have hnc72 := NB246_245.out; have hcz73_0 : w70.cell? ⟨gb245, 0, none⟩ = some (.slice A0_0 l0_0.length c0_0) := (bC_ BK245.out 0).trans rfl; have hfz73_0 := bF_ BK245.out 0) | ((with_reducible refine gC_ (f := 54) rfl ?_); refine goesL_ (some 13) rfl rfl Tryz.func54 (by kernel_rfl) rfl #[.int .i64 (l0_0.length : Int), .int .i64 1, .int .i64 81] rfl (by (try simp only [sD_, sE_, sF_]); rfl) ?_; (with_reducible refine (spec_l1In.calls (l0_0.length : Int) 1 81 false _ A2.out).mono ?_); rintro e w' ⟨rfl, ⟨nd, rfl⟩⟩; refine ⟨_, rfl, ?_⟩; (try (rw [drewN_self w70]; generalize hq_ : World.drewN w70 _ = w70; have n0_ : Aside0 (Kd.R Kd.string 9 w70 w.heap.size (fun _ => True) v248 y247) := ⟨by rw [← hq_]; exact (by (with_reducible repeat (first | apply k1_ | apply k2_ | apply k3_)); exact HO249.out)⟩; have n1_ : Aside0 (w70.heap[gb245]? = some (.cells #[.slice A0_0 l0_0.length c0_0] 30 (0, 0))) := ⟨by rw [← hq_]; exact (by (with_reducible repeat (first | refine b2_ ?_ _ | refine b1_ ?_ | refine b3_ ?_ _)); exact BK245.out)⟩; have n2_ : Aside0 (w70.heap[gb246]? = some (.cells #[.slice none 0 0] 36 (0, 0))) := ⟨by rw [← hq_]; exact (by (with_reducible repeat (first | refine b2_ ?_ _ | refine b1_ ?_ | refine b3_ ?_ _)); exact BK246.out)⟩; have n3_ : Aside0 (Below w.heap.size w w70) := ⟨by rw [← hq_]; exact (by repeat (first | (with_reducible first | exact HB.out | apply bA_ | apply bN_ | apply bD_ | refine bS_ ?_ GE245.out | refine bS_ ?_ GE246.out) | exact HB.out))⟩; clear HO249 BK245 BK246 HB hq_; have HO249 := n0_; have BK245 := n1_; have BK246 := n2_; have HB := n3_; clear n0_ n1_ n2_ n3_)); have hcz74_0 : w70.cell? ⟨gb246, 0, none⟩ = some (.slice none 0 0) := (bC_ BK246.out 0).trans rfl; have hfz74_0 := bF_ BK246.out 0))
  refine bodyPost_ret (results_ct rfl _ _ gb246 36 #[.slice none 0 0] (0, 0) _ rfl (by refine bP_ (cs := #[.slice none 0 0]) ?_ 0 _ rfl; exact BK246.out) Tryz.underlying36 rfl (by kernel_rfl)) rfl ?_
  exact ⟨_, by rfl, by exact Kd.R_nil _ _ _ _ _, by repeat (first | (with_reducible first | exact HB.out | apply bA_ | apply bN_ | apply bD_ | refine bS_ ?_ GE245.out | refine bS_ ?_ GE246.out) | exact HB.out)⟩
end Go.Proofs.YtfhffcefpnkllaaGreatDoor.P
namespace Go.Proofs.YtfhffcefpnkllaaGreatDoor.M
open Go.Lib
theorem keeps_iff (d : Array Txt) (j : Nat) : keeps d j = true ↔ (j = 0 ∨ d[j]! ≠ d[j - 1]!) := by simp [keeps]
theorem mem_compact (zs : List Txt) (y : Txt) : y ∈ compact zs ↔ y ∈ zs := by
 unfold compact compactUpTo
 simp only [List.mem_map, List.mem_filter, List.mem_range]
 constructor
 ·
  rintro ⟨j, ⟨hj, _⟩, rfl⟩
  rw [getElem!_pos zs.toArray j (by simpa using hj)]
  simp
 ·
  intro hy
  have hex : ∃ n, ∃ h : n < zs.length, zs[n] = y := by
   obtain ⟨n, h, e⟩ := List.mem_iff_getElem.1 hy
   exact ⟨n, h, e⟩
  have key : ∀ n, (∃ h : n < zs.length, zs[n] = y) → ∃ m, m < zs.length ∧ keeps zs.toArray m = true ∧ zs.toArray[m]! = y := by
   intro n
   induction n with
   | zero => rintro ⟨h, e⟩; exact ⟨0, h, (keeps_iff _ _).2 (.inl rfl), by rw [getElem!_pos zs.toArray 0 (by simpa using h)]; simpa using e⟩
   | succ n ih =>
    rintro ⟨h, e⟩
    have e1 : zs.toArray[n + 1]! = y := by rw [getElem!_pos zs.toArray (n + 1) (by simpa using h)]; simpa using e
    by_cases hk : keeps zs.toArray (n + 1) = true
    ·
     exact ⟨n + 1, h, hk, e1⟩
    ·
     have : zs.toArray[n + 1]! = zs.toArray[n]! := by
      by_cases h9 : zs.toArray[n + 1]! = zs.toArray[n]!
      ·
       exact h9
      ·
       exact absurd ((keeps_iff _ _).2 (.inr h9)) hk
     refine ih ⟨by omega, ?_⟩
     have h2 : zs.toArray[n]! = zs[n] := by rw [getElem!_pos zs.toArray n (by simp; omega)]; simp
     rw [← h2, ← this, e1]
  obtain ⟨n, h⟩ := hex
  obtain ⟨m, h1, h2, h3⟩ := key n h
  exact ⟨m, ⟨h1, h2⟩, h3⟩
theorem pair_get {zs : List Txt} (h : zs.Pairwise (fun a b => decide (a ≤ b) = true)) {i j : Nat} (hij : i < j) (hj : j < zs.length) : zs.toArray[i]! ≤ zs.toArray[j]! := by
 have := List.pairwise_iff_getElem.1 h i j (by omega) hj hij
 rw [getElem!_pos zs.toArray i (by simp; omega), getElem!_pos zs.toArray j (by simpa using hj)]
 simpa using this
theorem asc_compact {zs : List Txt} (h : zs.Pairwise (fun a b => decide (a ≤ b) = true)) : Asc (compact zs) := by
 unfold Asc compact compactUpTo
 rw [List.pairwise_map]
 have h1 : ((List.range zs.length).filter (keeps zs.toArray)).Pairwise (· < ·) := List.Pairwise.filter _ List.pairwise_lt_range
 refine List.Pairwise.imp_of_mem ?_ h1
 intro a b ha hb hab
 rw [List.mem_filter, List.mem_range] at ha hb
 have hk := (keeps_iff _ _).1 hb.2
 have hne : zs.toArray[b]! ≠ zs.toArray[b - 1]! := by
  rcases hk with h0 | h0
  ·
   omega
  ·
   exact h0
 have h2 : zs.toArray[b - 1]! ≤ zs.toArray[b]! := pair_get h (by omega) hb.1
 have h3 : zs.toArray[a]! ≤ zs.toArray[b - 1]! := by
  by_cases e : a = b - 1
  ·
   subst e; exact List.le_refl _
  ·
   exact pair_get h (by omega) (by omega)
 have h4 : zs.toArray[b - 1]! < zs.toArray[b]! := by
  by_cases hlt : zs.toArray[b - 1]! < zs.toArray[b]!
  ·
   exact hlt
  ·
   exact absurd (List.le_antisymm (List.not_lt.1 hlt) h2) hne
 exact List.lt_of_le_of_lt h3 h4
theorem sorted_compact (l : List Txt) : compact (l.mergeSort fun x y => decide (x ≤ y)) = setL l := by
 have hp : (l.mergeSort fun x y => decide (x ≤ y)).Pairwise (fun a b => decide (a ≤ b) = true) := by
  refine List.pairwise_mergeSort ?_ ?_ l
  ·
   intro a b c h1 h2
   simp only [decide_eq_true_eq] at h1 h2 ⊢
   exact List.le_trans h1 h2
  ·
   intro a b
   simp only [Bool.or_eq_true, decide_eq_true_eq]
   exact List.le_total a b
 refine asc_ext _ _ (asc_compact hp) (asc_setL l) fun y => ?_
 rw [mem_compact, List.mem_mergeSort, mem_setL]
end Go.Proofs.YtfhffcefpnkllaaGreatDoor.M
namespace Go.Proofs.YtfhffcefpnkllaaGreatDoor.M
open Go.RowKit Go.Proofs.YtfhffcefpnkllaaGreatDoorW.PrintWords
theorem rdB (l : List Txt) (n : Nat) (h : n < l.length) : rdOf ByteArray.empty (l.map B) (n : Int) = B (l.getD n []) := by
 simp [rdOf, List.getD_eq_getElem?_getD, h]
theorem exBs (l : List ByteArray) : ∃ m : List Txt, l = m.map B := ⟨l.map fun x => x.data.toList, by rw [List.map_map]; exact ((List.map_congr_left (fun x _ => B_data x)).trans (List.map_id _)).symm⟩
theorem map_B_inj {l m : List Txt} (h : l.map B = m.map B) : l = m := (List.map_inj_right (fun _ _ h => B_inj h)).1 h
end Go.Proofs.YtfhffcefpnkllaaGreatDoor.M
namespace Go.Proofs.YtfhffcefpnkllaaGreatDoor.L
open Go.RowKit Go.Proofs.YtfhffcefpnkllaaGreatDoor.P Go.Proofs.YtfhffcefpnkllaaGreatDoor.M Go.Proofs.YtfhffcefpnkllaaGreatDoorW.PrintWords Go.Proofs.YtfhffcefpnkllaaGreatDoorW.PrintLast Go.Proofs.YtfhffcefpnkllaaGreatDoorW.PrintMore
theorem map_data (l : List Txt) : (l.map B).map (fun x => x.data.toList) = l := by
 rw [List.map_map]
 exact (List.map_congr_left (fun x _ => data_B x)).trans (List.map_id _)
theorem l2Put_eq (l : List Txt) (w : Txt) (h : l.length ≤ 4294967296) (h2 : ∀ x ∈ l, x.length ≤ 4611686018427387900) : spec_l2Put.f (l.map B) (B w) = some ((putL l w).map B) := by
 have hall : ((l.map B).all fun x => decide (x.size ≤ 4611686018427387900)) = true := List.all_eq_true.2 fun x hx => by
  obtain ⟨y, hy, rfl⟩ := List.mem_map.1 hx
  simpa using h2 y hy
 unfold spec_l2Put.f
 rw [map_data, data_B, if_pos ⟨by simpa using h, hall⟩]
theorem set_eq (l : List Txt) (h : l.length ≤ 4294967296) : impl_set.f (l.map B) = some ((setL l).map B) := by
 unfold impl_set.f
 rw [if_pos (by simpa using h), map_data, sorted_compact]
 rfl
end Go.Proofs.YtfhffcefpnkllaaGreatDoor.L
namespace Go.Proofs.YtfhffcefpnkllaaGreatDoor.M
theorem txt_lt_snoc : ∀ (p : Txt) (x : UInt8), p < p ++ [x]
 | [], x => List.nil_lt_cons x []
 | a :: p, x => List.cons_lt_cons_iff.2 (.inr ⟨rfl, txt_lt_snoc p x⟩)
theorem dropLast_getD (p : Txt) (h : p ≠ []) : p.dropLast ++ [p.getD (p.length - 1) 0] = p := by
 have h0 := List.length_pos_iff.2 h
 have h1 : p.length - 1 < p.length := by omega
 rw [List.dropLast_eq_take, getD_lt 0 h1, ← List.take_succ_eq_append_getElem h1, List.take_of_length_le (by omega)]
theorem txt_dropLast_lt (p : Txt) (h : p ≠ []) : p.dropLast < p := by
 have := txt_lt_snoc p.dropLast (p.getD (p.length - 1) 0)
 rwa [dropLast_getD p h] at this
def Clo (P : List Txt) : Prop := [] ∈ P ∧ ∀ p ∈ P, p ≠ [] → p.dropLast ∈ P
def begs (w : Txt) : List Txt := (List.range w.length).map fun n => w.take (n + 1)
def preL (ws : List Txt) : List Txt := setL ([] :: ws.flatMap begs)
theorem mem_begs {w p : Txt} : p ∈ begs w ↔ p ≠ [] ∧ p <+: w := by
 constructor
 ·
  intro h
  obtain ⟨n, hn, rfl⟩ := List.mem_map.1 h
  rw [List.mem_range] at hn
  exact ⟨fun e => by have := congrArg List.length e; rw [List.length_take, List.length_nil] at this; omega, List.take_prefix _ _⟩
 ·
  rintro ⟨h1, h2⟩
  have h3 := h2.length_le
  have h4 := List.length_pos_iff.2 h1
  refine List.mem_map.2 ⟨p.length - 1, List.mem_range.2 (by omega), ?_⟩
  rw [show p.length - 1 + 1 = p.length from by omega]
  exact (List.prefix_iff_eq_take.1 h2).symm
theorem mem_preL {ws : List Txt} {p : Txt} : p ∈ preL ws ↔ p = [] ∨ ∃ w ∈ ws, p ≠ [] ∧ p <+: w := by
 unfold preL
 rw [mem_setL, List.mem_cons, List.mem_flatMap]
 simp only [mem_begs]
theorem clo_preL (ws : List Txt) : Clo (preL ws) := by
 refine ⟨mem_preL.2 (.inl rfl), fun p hp hne => ?_⟩
 rcases mem_preL.1 hp with rfl | ⟨w, hw, _, h⟩
 ·
  exact absurd rfl hne
 ·
  by_cases h0 : p.dropLast = []
  ·
   rw [h0]; exact mem_preL.2 (.inl rfl)
  ·
   exact mem_preL.2 (.inr ⟨w, hw, h0, (List.dropLast_prefix p).trans h⟩)
theorem asc_preL (ws : List Txt) : Asc (preL ws) := asc_setL _
theorem self_preL {ws : List Txt} {w : Txt} (h : w ∈ ws) : w ∈ preL ws := by
 by_cases h0 : w = []
 ·
  rw [h0]; exact mem_preL.2 (.inl rfl)
 ·
  exact mem_preL.2 (.inr ⟨w, h, h0, List.prefix_refl _⟩)
theorem preL_congr {ws vs : List Txt} (h : ∀ w, w ∈ ws ↔ w ∈ vs) : preL ws = preL vs :=
 asc_ext _ _ (asc_preL _) (asc_preL _) fun y => by rw [mem_preL, mem_preL]; simp only [h]
theorem foldl_putL_len : ∀ (l acc : List Txt), (l.foldl putL acc).length ≤ acc.length + l.length
 | [], _ => Nat.le_refl _
 | x :: l, acc => by
  have h1 := foldl_putL_len l (putL acc x)
  have h2 := putL_length_le acc x
  rw [List.foldl_cons, List.length_cons]; omega
theorem setL_length_le (l : List Txt) : (setL l).length ≤ l.length := by have := foldl_putL_len l []; simpa [setL] using this
theorem begs_length (w : Txt) : (begs w).length = w.length := by simp [begs]
theorem flatMap_begs_length : ∀ (ws : List Txt), (∀ w ∈ ws, w.length ≤ 12) → (ws.flatMap begs).length ≤ 12 * ws.length
 | [], _ => by simp
 | w :: ws, h => by
  have h1 := flatMap_begs_length ws fun x hx => h x (List.mem_cons_of_mem _ hx)
  have h2 := h w (by simp)
  rw [List.flatMap_cons, List.length_append, begs_length, List.length_cons]; omega
theorem preL_length {ws : List Txt} (h : ∀ w ∈ ws, w.length ≤ 12) : (preL ws).length ≤ 12 * ws.length + 1 := by
 have h1 := flatMap_begs_length ws h
 have h2 := setL_length_le ([] :: ws.flatMap begs)
 unfold preL
 rw [List.length_cons] at h2
 omega
def placeL : List Txt → Txt → Nat
 | [], _ => 0
 | x :: r, p => if x = p then 0 else placeL r p + 1
theorem placeL_le : ∀ (P : List Txt) (p : Txt), placeL P p ≤ P.length
 | [], _ => Nat.le_refl _
 | x :: r, p => by
  have := placeL_le r p
  by_cases h : x = p
  ·
   simp [placeL, h]
  ·
   simp only [placeL, if_neg h, List.length_cons]; omega
theorem placeL_mem : ∀ {P : List Txt} {p : Txt}, p ∈ P → placeL P p < P.length ∧ P.getD (placeL P p) [] = p
 | [], _, h => by simp at h
 | x :: r, p, h => by
  by_cases h0 : x = p
  ·
   simp [placeL, h0]
  ·
   have h1 : p ∈ r := by
    rcases List.mem_cons.1 h with e | e
    ·
     exact absurd e.symm h0
    ·
     exact e
   obtain ⟨h2, h3⟩ := placeL_mem h1
   simp only [placeL, if_neg h0, List.length_cons]
   exact ⟨by omega, by simpa using h3⟩
theorem getD_mem {P : List Txt} {i : Nat} (h : i < P.length) : P.getD i [] ∈ P := by rw [getD_lt [] h]; exact List.getElem_mem h
theorem asc_get {P : List Txt} (hA : Asc P) {i j : Nat} (hj : j < P.length) (hij : i < j) : P.getD i [] < P.getD j [] := by
 have := List.pairwise_iff_getElem.1 hA i j (by omega) hj hij
 rwa [getD_lt [] hj, getD_lt [] (show i < P.length by omega)]
theorem asc_get_lt {P : List Txt} (hA : Asc P) {i j : Nat} (hi : i < P.length) (hj : j < P.length) (h : P.getD i [] < P.getD j []) : i < j := by
 rcases Nat.lt_trichotomy i j with h1 | h1 | h1
 ·
  exact h1
 ·
  subst h1; exact absurd h (txt_irrefl _)
 ·
  exact absurd (asc_get hA hi h1) (txt_asymm h)
theorem asc_inj {P : List Txt} (hA : Asc P) {i j : Nat} (hi : i < P.length) (hj : j < P.length) (h : P.getD i [] = P.getD j []) : i = j := by
 rcases Nat.lt_trichotomy i j with h1 | h1 | h1
 ·
  exact absurd (h ▸ asc_get hA hj h1) (txt_irrefl _)
 ·
  exact h1
 ·
  exact absurd (h ▸ asc_get hA hi h1) (txt_irrefl _)
theorem placeL_get {P : List Txt} (hA : Asc P) {i : Nat} (hi : i < P.length) : placeL P (P.getD i []) = i := by
 obtain ⟨h1, h2⟩ := placeL_mem (getD_mem hi)
 exact asc_inj hA h1 hi h2
theorem clo_zero {P : List Txt} (hA : Asc P) (hC : Clo P) : 0 < P.length ∧ P.getD 0 [] = [] := by
 obtain ⟨h1, h2⟩ := placeL_mem hC.1
 refine ⟨by omega, ?_⟩
 rcases Nat.eq_zero_or_pos (placeL P []) with h0 | h0
 ·
  rwa [h0] at h2
 ·
  have := asc_get hA h1 h0
  rw [h2] at this
  exact absurd this (List.not_lt_nil _)
theorem clo_pos {P : List Txt} (hA : Asc P) (hC : Clo P) {i : Nat} (hi : i < P.length) (h0 : 0 < i) : P.getD i [] ≠ [] := fun e => by
 obtain ⟨h1, h2⟩ := clo_zero hA hC
 have := asc_inj hA hi h1 (e.trans h2.symm)
 omega
theorem clo_parent {P : List Txt} (hA : Asc P) (hC : Clo P) {i : Nat} (hi : i < P.length) (h0 : 0 < i) :
  placeL P (P.getD i []).dropLast < i ∧ P.getD (placeL P (P.getD i []).dropLast) [] = (P.getD i []).dropLast := by
 have hne := clo_pos hA hC hi h0
 obtain ⟨h1, h2⟩ := placeL_mem (hC.2 _ (getD_mem hi) hne)
 exact ⟨asc_get_lt hA h1 hi (by rw [h2]; exact txt_dropLast_lt _ hne), h2⟩
def ltrOf (p : Txt) : Int := (((p.getD (p.length - 1) 0).toNat : Int) - 97) % 256
def ndL (P ws : List Txt) (p : Txt) : Int × Int × Bool := (if p = [] then -1 else ltrOf p, if p = [] then -1 else (placeL P p.dropLast : Int), decide (p ∈ ws))
def nodesL (P ws : List Txt) : List (Int × Int × Bool) := P.map (ndL P ws)
def wordL (w : Txt) : Bool := w.all letterB && decide (w.length ≤ 12)
structure OkW (ws : List Txt) : Prop where
 asc : Asc ws
 len : ws.length ≤ 40
 word : ∀ w ∈ ws, wordL w = true
theorem wordL_iff {w : Txt} : wordL w = true ↔ (∀ c ∈ w, letterB c = true) ∧ w.length ≤ 12 := by
 unfold wordL
 rw [Bool.and_eq_true, List.all_eq_true, decide_eq_true_eq]
theorem OkW.le {ws : List Txt} (h : OkW ws) : ∀ w ∈ ws, w.length ≤ 12 := fun w hw => (wordL_iff.1 (h.word w hw)).2
theorem OkW.pre {ws : List Txt} (h : OkW ws) : (preL ws).length ≤ 481 := by
 have h1 := preL_length h.le
 have h2 := h.len
 omega
theorem wordL_pre {p w : Txt} (h : p <+: w) (hw : wordL w = true) : wordL p = true := by
 obtain ⟨h1, h2⟩ := wordL_iff.1 hw
 exact wordL_iff.2 ⟨fun c hc => h1 c (h.subset hc), Nat.le_trans h.length_le h2⟩
theorem preL_word {ws : List Txt} (h : ∀ w ∈ ws, wordL w = true) {p : Txt} (hp : p ∈ preL ws) : wordL p = true := by
 rcases mem_preL.1 hp with rfl | ⟨w, hw, _, h1⟩
 ·
  rfl
 ·
  exact wordL_pre h1 (h w hw)
theorem letter_bd {c : UInt8} (h : letterB c = true) : 97 ≤ c.toNat ∧ c.toNat ≤ 122 := by simpa [letterB] using h
theorem getLast_mem {p : Txt} (h : p ≠ []) : p.getD (p.length - 1) 0 ∈ p := by
 have := List.length_pos_iff.2 h
 rw [getD_lt 0 (show p.length - 1 < p.length by omega)]
 exact List.getElem_mem _
theorem ltrOf_bd {p : Txt} (hw : wordL p = true) (h : p ≠ []) : ltrOf p = ((p.getD (p.length - 1) 0).toNat : Int) - 97 ∧ 0 ≤ ltrOf p ∧ ltrOf p ≤ 25 := by
 have h1 := letter_bd ((wordL_iff.1 hw).1 _ (getLast_mem h))
 unfold ltrOf
 omega
theorem filter_preL {ws : List Txt} (h : Asc ws) : (preL ws).filter (fun p => decide (p ∈ ws)) = ws := by
 refine asc_ext _ _ ((asc_preL ws).filter _) h fun y => ?_
 rw [List.mem_filter, decide_eq_true_eq]
 exact ⟨fun h => h.2, fun h => ⟨self_preL h, h⟩⟩
def kidsL (P : List Txt) (p : Txt) : List Txt := P.filter fun q => decide (q ≠ [] ∧ q.dropLast = p)
def stayL (P ws : List Txt) (p : Txt) : Bool := decide (p = []) || decide (p ∈ ws) || decide ((kidsL P p).length ≠ 1)
def stayQ (P ws : List Txt) : List Txt := P.filter (stayL P ws)
def upF (P ws : List Txt) : Nat → Txt → Txt
 | 0, _ => []
 | n + 1, p => if stayL P ws p.dropLast = true then p.dropLast else upF P ws n p.dropLast
def upL (P ws : List Txt) (p : Txt) : Txt := upF P ws p.length p
theorem stay_nil (P ws : List Txt) : stayL P ws [] = true := by unfold stayL; simp
theorem upF_spec {P : List Txt} (ws : List Txt) (hC : Clo P) : ∀ (n : Nat) (p : Txt), p.length = n → p ∈ P → p ≠ [] → upF P ws n p <+: p ∧ (upF P ws n p).length < p.length ∧ upF P ws n p ∈ P ∧ stayL P ws (upF P ws n p) = true
 | 0, p, h, _, hne => absurd (List.eq_nil_of_length_eq_zero h) hne
 | n + 1, p, h, hp, hne => by
  have hd := hC.2 p hp hne
  have hl : p.dropLast.length = n := by rw [List.length_dropLast]; omega
  rw [upF]
  by_cases hs : stayL P ws p.dropLast = true
  ·
   rw [if_pos hs]
   exact ⟨List.dropLast_prefix p, by omega, hd, hs⟩
  ·
   rw [if_neg hs]
   have hne2 : p.dropLast ≠ [] := fun e => hs (by rw [e]; exact stay_nil P ws)
   obtain ⟨h1, h2, h3, h4⟩ := upF_spec ws hC n p.dropLast hl hd hne2
   exact ⟨h1.trans (List.dropLast_prefix p), by omega, h3, h4⟩
theorem upL_spec {P : List Txt} (ws : List Txt) (hC : Clo P) {p : Txt} (hp : p ∈ P) (hne : p ≠ []) : upL P ws p <+: p ∧ (upL P ws p).length < p.length ∧ upL P ws p ∈ P ∧ stayL P ws (upL P ws p) = true := upF_spec ws hC _ p rfl hp hne
theorem prefix_lt {p q : Txt} (h : p <+: q) (hl : p.length < q.length) : p < q := by
 obtain ⟨r, rfl⟩ := h
 cases r with
 | nil => rw [List.append_nil] at hl; omega
 | cons x r =>
  induction p with
  | nil => exact List.nil_lt_cons x r
  | cons a p ih => exact List.cons_lt_cons_iff.2 (.inr ⟨rfl, ih (by simp)⟩)
theorem asc_stayQ {P : List Txt} (ws : List Txt) (hA : Asc P) : Asc (stayQ P ws) := hA.filter _
theorem mem_stayQ {P ws : List Txt} {p : Txt} : p ∈ stayQ P ws ↔ p ∈ P ∧ stayL P ws p = true := List.mem_filter
theorem nil_stayQ {P : List Txt} (ws : List Txt) (hC : Clo P) : [] ∈ stayQ P ws := mem_stayQ.2 ⟨hC.1, stay_nil P ws⟩
theorem up_stayQ {P : List Txt} (ws : List Txt) (hC : Clo P) {p : Txt} (hp : p ∈ stayQ P ws) (hne : p ≠ []) : upL P ws p ∈ stayQ P ws := by
 obtain ⟨_, _, h3, h4⟩ := upL_spec ws hC (mem_stayQ.1 hp).1 hne
 exact mem_stayQ.2 ⟨h3, h4⟩
theorem stayQ_zero {P : List Txt} (ws : List Txt) (hA : Asc P) (hC : Clo P) : 0 < (stayQ P ws).length ∧ (stayQ P ws).getD 0 [] = [] := by
 obtain ⟨h1, h2⟩ := placeL_mem (nil_stayQ ws hC)
 refine ⟨by omega, ?_⟩
 rcases Nat.eq_zero_or_pos (placeL (stayQ P ws) []) with h0 | h0
 ·
  rwa [h0] at h2
 ·
  have := asc_get (asc_stayQ ws hA) h1 h0
  rw [h2] at this
  exact absurd this (List.not_lt_nil _)
theorem stayQ_pos {P : List Txt} (ws : List Txt) (hA : Asc P) (hC : Clo P) {i : Nat} (hi : i < (stayQ P ws).length) (h0 : 0 < i) : (stayQ P ws).getD i [] ≠ [] := fun e => by
 obtain ⟨h1, h2⟩ := stayQ_zero ws hA hC
 have := asc_inj (asc_stayQ ws hA) hi h1 (e.trans h2.symm)
 omega
theorem stayQ_parent {P : List Txt} (ws : List Txt) (hA : Asc P) (hC : Clo P) {i : Nat} (hi : i < (stayQ P ws).length) (h0 : 0 < i) :
  placeL (stayQ P ws) (upL P ws ((stayQ P ws).getD i [])) < i ∧ (stayQ P ws).getD (placeL (stayQ P ws) (upL P ws ((stayQ P ws).getD i []))) [] = upL P ws ((stayQ P ws).getD i []) := by
 have hne := stayQ_pos ws hA hC hi h0
 have hm := getD_mem hi
 obtain ⟨h1, h2⟩ := placeL_mem (up_stayQ ws hC hm hne)
 obtain ⟨u1, u2, _, _⟩ := upL_spec ws hC (mem_stayQ.1 hm).1 hne
 exact ⟨asc_get_lt (asc_stayQ ws hA) h1 hi (by rw [h2]; exact prefix_lt u1 u2), h2⟩
def brL (P ws : List Txt) (p : Txt) : Txt × Int × Bool := (if p = [] then [] else p.drop (upL P ws p).length, if p = [] then -1 else (placeL (stayQ P ws) (upL P ws p) : Int), decide (p ∈ ws))
def brsL (P ws : List Txt) : List (Txt × Int × Bool) := (stayQ P ws).map (brL P ws)
theorem up_append {P : List Txt} (ws : List Txt) (hC : Clo P) {p : Txt} (hp : p ∈ P) (hne : p ≠ []) : upL P ws p ++ p.drop (upL P ws p).length = p := by
 obtain ⟨⟨r, hr⟩, _⟩ := upL_spec ws hC hp hne
 have : p.drop (upL P ws p).length = r := by
  have := congrArg (List.drop (upL P ws p).length) hr
  rw [List.drop_left] at this
  exact this.symm
 rw [this, hr]
theorem drop_ne {P : List Txt} (ws : List Txt) (hC : Clo P) {p : Txt} (hp : p ∈ P) (hne : p ≠ []) : p.drop (upL P ws p).length ≠ [] := fun e => by
 obtain ⟨_, h2, _⟩ := upL_spec ws hC hp hne
 have := congrArg List.length e
 rw [List.length_drop, List.length_nil] at this
 omega
theorem filter_stayQ {ws : List Txt} (h : Asc ws) : (stayQ (preL ws) ws).filter (fun p => decide (p ∈ ws)) = ws := by
 refine asc_ext _ _ ((asc_stayQ ws (asc_preL ws)).filter _) h fun y => ?_
 rw [List.mem_filter, decide_eq_true_eq]
 refine ⟨fun h => h.2, fun h => ⟨mem_stayQ.2 ⟨self_preL h, ?_⟩, h⟩⟩
 unfold stayL
 rw [decide_eq_true h, Bool.or_true, Bool.true_or]
theorem placeL_filter {P : List Txt} (hA : Asc P) (f : Txt → Bool) {i : Nat} (hi : i < P.length) (hf : f (P.getD i []) = true) : placeL (P.filter f) (P.getD i []) = ((P.take i).filter f).length := by
 have h1 : P = P.take i ++ P.getD i [] :: P.drop (i + 1) := by rw [← drop_cons_getD [] hi, List.take_append_drop]
 have h2 : P.filter f = (P.take i).filter f ++ P.getD i [] :: (P.drop (i + 1)).filter f := by
  conv => lhs; rw [h1]
  rw [List.filter_append, List.filter_cons, if_pos hf]
 have hA2 := hA.filter f
 have hl : ((P.take i).filter f).length < (P.filter f).length := by rw [h2]; simp
 have hg : (P.filter f).getD ((P.take i).filter f).length [] = P.getD i [] := by
  rw [h2, List.getD_eq_getElem?_getD, List.getElem?_append_right (Nat.le_refl _), Nat.sub_self]
  rfl
 have := placeL_get hA2 hl
 rwa [hg] at this
theorem filter_take_succ {P : List Txt} (f : Txt → Bool) {i : Nat} (hi : i < P.length) : (P.take (i + 1)).filter f = (P.take i).filter f ++ (if f (P.getD i []) = true then [P.getD i []] else []) := by
 rw [take_succ_getD [] hi, List.filter_append, List.filter_cons, List.filter_nil]
theorem upF_above {P : List Txt} (ws : List Txt) : ∀ (n : Nat) (p q : Txt), p.length = n → q <+: p → q ≠ p → stayL P ws q = true → q <+: upF P ws n p
 | 0, p, q, h, hq, hne, _ => by
  have hp := List.eq_nil_of_length_eq_zero h
  rw [hp] at hq hne
  exact absurd (List.prefix_nil.1 hq) hne
 | n + 1, p, q, h, hq, hne, hs => by
  have hp : p ≠ [] := fun e => by rw [e] at h; simp at h
  have hlen : q.length < p.length := by
   rcases Nat.lt_or_ge q.length p.length with h1 | h1
   ·
    exact h1
   ·
    exact absurd (hq.eq_of_length_le h1) hne
  have hd : q <+: p.dropLast := by
   rw [List.dropLast_eq_take]
   rw [List.prefix_iff_eq_take.1 hq]
   exact List.take_prefix_take_left (by omega)
  have hl : p.dropLast.length = n := by rw [List.length_dropLast]; omega
  rw [upF]
  by_cases hst : stayL P ws p.dropLast = true
  ·
   rw [if_pos hst]; exact hd
  ·
   rw [if_neg hst]
   exact upF_above ws n p.dropLast q hl hd (fun e => hst (e ▸ hs)) hs
theorem upL_above {P : List Txt} (ws : List Txt) {p q : Txt} (hq : q <+: p) (hne : q ≠ p) (hs : stayL P ws q = true) : q <+: upL P ws p := upF_above ws _ p q rfl hq hne hs
theorem filter_one {Q : List Txt} (hQ : Asc Q) {a : Txt} (ha : a ∈ Q) : Q.filter (fun q => decide (q = a)) = [a] := by
 refine asc_ext _ _ (hQ.filter _) (List.pairwise_singleton _ _) fun y => ?_
 rw [List.mem_filter, decide_eq_true_eq, List.mem_singleton]
 exact ⟨fun h => h.2, fun h => ⟨h ▸ ha, h⟩⟩
theorem filter_or_len (f g : Txt → Bool) : ∀ l : List Txt, (∀ x ∈ l, ¬ (f x = true ∧ g x = true)) → (l.filter fun x => f x || g x).length = (l.filter f).length + (l.filter g).length
 | [], _ => rfl
 | x :: l, h => by
  have ih := filter_or_len f g l fun y hy => h y (List.mem_cons_of_mem _ hy)
  have hx := h x List.mem_cons_self
  rw [List.filter_cons, List.filter_cons, List.filter_cons]
  cases hf : f x <;> cases hg : g x
  ·
   simpa using ih
  ·
   simp [ih]; omega
  ·
   simp [ih]; omega
  ·
   exact absurd ⟨hf, hg⟩ hx
theorem upL_step {P : List Txt} (ws : List Txt) {q : Txt} (h : q ≠ []) : upL P ws q = if stayL P ws q.dropLast = true then q.dropLast else upL P ws q.dropLast := by
 unfold upL
 obtain ⟨n, hn⟩ : ∃ n, q.length = n + 1 := ⟨q.length - 1, by have := List.length_pos_iff.2 h; omega⟩
 rw [hn, upF, show q.dropLast.length = n from by rw [List.length_dropLast]; omega]
def cntL (P ws : List Txt) (p : Txt) : Nat := ((stayQ P ws).filter fun q => decide (q ≠ [] ∧ q <+: p)).length
theorem cntL_nil (P ws : List Txt) : cntL P ws [] = 0 := by
 unfold cntL
 rw [List.length_eq_zero_iff, List.filter_eq_nil_iff]
 intro q _ h
 rw [decide_eq_true_eq] at h
 exact h.1 (List.prefix_nil.1 h.2)
theorem cntL_step {P : List Txt} (ws : List Txt) (hA : Asc P) (hC : Clo P) {p : Txt} (hp : p ∈ stayQ P ws) (hne : p ≠ []) : cntL P ws p = cntL P ws (upL P ws p) + 1 := by
 obtain ⟨u1, u2, u3, u4⟩ := upL_spec ws hC (mem_stayQ.1 hp).1 hne
 have h1 : (stayQ P ws).filter (fun q => decide (q ≠ [] ∧ q <+: p)) = (stayQ P ws).filter (fun q => decide (q ≠ [] ∧ q <+: upL P ws p) || decide (q = p)) := by
  apply List.filter_congr
  intro q hq
  have hs := (mem_stayQ.1 hq).2
  by_cases e : q = p
  ·
   subst e
   rw [decide_eq_true (show q ≠ [] ∧ q <+: q from ⟨hne, List.prefix_refl q⟩), decide_eq_true (rfl : q = q), Bool.or_true]
  ·
   rw [decide_eq_false e, Bool.or_false]
   exact decide_eq_decide.2 ⟨fun h => ⟨h.1, upL_above ws h.2 e hs⟩, fun h => ⟨h.1, h.2.trans u1⟩⟩
 unfold cntL
 rw [h1, filter_or_len, filter_one (asc_stayQ ws hA) hp]
 ·
  rfl
 ·
  rintro q _ ⟨h2, h3⟩
  rw [decide_eq_true_eq] at h2 h3
  subst h3
  have := h2.2.length_le
  omega
end Go.Proofs.YtfhffcefpnkllaaGreatDoor.M
namespace Go.Proofs.YtfhffcefpnkllaaGreatDoor.L
open Go.RowKit Go.Proofs.YtfhffcefpnkllaaGreatDoor.P Go.Proofs.YtfhffcefpnkllaaGreatDoor.M Go.Proofs.YtfhffcefpnkllaaGreatDoorW.PrintWords Go.Proofs.YtfhffcefpnkllaaGreatDoorW.PrintLast Go.Proofs.YtfhffcefpnkllaaGreatDoorW.PrintMore
theorem l1In_eq (a b c : Int) : spec_l1In.f a b c = some (decide (b ≤ a ∧ a ≤ c)) := by
 unfold spec_l1In.f
 by_cases h : b ≤ a
 ·
  rw [if_pos (by omega)]; simp [h]
 ·
  rw [if_neg (by omega)]; simp [h]
instance : DecidableEq S76 := fun a b => if h : a.f0 = b.f0 ∧ a.f1 = b.f1 ∧ a.f2 = b.f2 then isTrue (by obtain ⟨a0, a1, a2⟩ := a; obtain ⟨b0, b1, b2⟩ := b; obtain ⟨h1, h2, h3⟩ := h; simp only at h1 h2 h3; subst h1 h2 h3; rfl) else isFalse (fun e => h (by rw [e]; exact ⟨rfl, rfl, rfl⟩))
def mkN (x : Int × Int × Bool) : S76 := ⟨x.1, x.2.1, x.2.2⟩
def trN (P ws : List Txt) : List S76 := (nodesL P ws).map mkN
theorem trN_length (P ws : List Txt) : (trN P ws).length = P.length := by simp [trN, nodesL]
theorem rdN (P ws : List Txt) (i : Nat) (h : i < P.length) : rd_T76 (trN P ws) (i : Int) = mkN (ndL P ws (P.getD i [])) := by
 unfold rd_T76 trN nodesL
 rw [Int.toNat_natCast, getD_lt _ (by simpa using h), getD_lt _ h]
 simp
theorem strOfNums_B (n : Int) : strOfNums [n] = B [UInt8.ofNat n.toNat] := rfl
theorem letter_back {p : Txt} (hw : wordL p = true) (h : p ≠ []) : strOfNums [(wrap64 (97 + ltrOf p)) % 256] = B [p.getD (p.length - 1) 0] := by
 obtain ⟨h1, h2, h3⟩ := ltrOf_bd hw h
 have h4 := letter_bd ((wordL_iff.1 hw).1 _ (getLast_mem h))
 rw [strOfNums_B]
 congr 2
 have e : (wrap64 (97 + ltrOf p) % 256).toNat = (p.getD (p.length - 1) 0).toNat := by rw [wrap64_id (by omega) (by omega)]; omega
 rw [e]
 simp
theorem l2Word_loop (l : Txt) (hl : l.length ≤ 4611686018427387903) : ∀ (d n : Nat), n + d = l.length → Ev (fun k => spec_l2Word.l0 k (B l) (n : Int)) ((l.drop n).all letterB && decide (l.length ≤ 12)) := by
 have last : ∀ n : Nat, Ev (fun k => spec_l2Word.j1 k (B l) (n : Int) false) (decide (l.length ≤ 12)) := by
  intro n
  refine Ev.step (fun k => spec_l2Word.j1.eq_2 ..) (Ev.ifF (by simp) ?_)
  have : decide (((B l).size : Int) ≤ 12) = decide (l.length ≤ 12) := by simp; omega
  rw [this]; exact Ev.now _
 intro d
 induction d with
 | zero =>
  intro n hn
  refine Ev.step (fun k => spec_l2Word.l0.eq_2 ..) (Ev.ifF (by simp; omega) ?_)
  rw [List.drop_of_length_le (by omega)]; simpa using last n
 | succ d ih =>
  intro n hn
  have h1 : n < l.length := by omega
  refine Ev.step (fun k => spec_l2Word.l0.eq_2 ..) (Ev.ifT (by simp; omega) ?_)
  rw [drop_cons_getD 0 h1]
  by_cases h16 : n ≤ 12
  ·
   rw [show decide ((n : Int) ≤ 12) = true from by simp; omega]
   refine Ev.step (fun k => spec_l2Word.j1.eq_2 ..) (Ev.ifT rfl (Ev.ifT (by omega) (Ev.ifT (by simp; omega) ?_)))
   simp only [bt_B l n h1]
   by_cases ha : ((l.getD n 0).toNat : Int) < 97
   ·
    refine Ev.ifT ha ?_
    have : letterB (l.getD n 0) = false := by simp only [letterB, decide_eq_false_iff_not]; omega
    simpa only [List.all_cons, this, Bool.false_and] using Ev.now false
   refine Ev.ifF ha ?_
   by_cases hz : ((l.getD n 0).toNat : Int) > 122
   ·
    refine Ev.ifT hz ?_
    have : letterB (l.getD n 0) = false := by simp only [letterB, decide_eq_false_iff_not]; omega
    simpa only [List.all_cons, this, Bool.false_and] using Ev.now false
   refine Ev.ifF hz ?_
   have : letterB (l.getD n 0) = true := by simp only [letterB, decide_eq_true_eq]; omega
   simpa only [wrap64_succ n (by omega), List.all_cons, this, Bool.true_and] using ih (n + 1) (by omega)
  ·
   rw [show decide ((n : Int) ≤ 12) = false from by simp; omega]
   have : ((l.getD n 0 :: l.drop (n + 1)).all letterB && decide (l.length ≤ 12)) = decide (l.length ≤ 12) := by
    have : decide (l.length ≤ 12) = false := by simp; omega
    rw [this]; simp
   rw [this]; exact last n
theorem l2Word_ev (l : Txt) (hl : l.length ≤ 4611686018427387903) : Ev (fun k => spec_l2Word.f k (B l)) (wordL l) := by
 simpa [spec_l2Word.f, wordL] using l2Word_loop l hl l.length 0 (by omega)
theorem l2Prefix_last (x1 : Int) (s : Txt) (N : List S76) : Ev (fun k => spec_l2Prefix.j1 k x1 (B s) false N) (if x1 = 0 then B s else B [63]) := by
 refine Ev.step (fun k => spec_l2Prefix.j1.eq_2 ..) (Ev.ifF (by simp) ?_)
 by_cases h : x1 = 0
 ·
  have e : (if x1 = 0 then B s else B [63]) = B s := if_pos h
  rw [e]; exact Ev.ifT h (Ev.now _)
 ·
  have e : (if x1 = 0 then B s else B [63]) = B [63] := if_neg h
  rw [e]; exact Ev.ifF h (Ev.now _)
theorem l2Prefix_ex (N : List S76) : ∀ (d : Nat) (x1 : Int) (s : Txt), x1.toNat ≤ d → x1 < N.length → s.length ≤ 13 → ∃ r : Txt, r.length ≤ 13 ∧ Ev (fun k => spec_l2Prefix.l0 k x1 (B s) N) (B r) := by
 have low : ∀ (x1 : Int) (s : Txt), x1 ≤ 0 → s.length ≤ 13 → ∃ r : Txt, r.length ≤ 13 ∧ Ev (fun k => spec_l2Prefix.l0 k x1 (B s) N) (B r) := by
  intro x1 s h1 h2
  have hl := l2Prefix_last x1 s N
  by_cases h : x1 = 0
  ·
   rw [if_pos h] at hl; exact ⟨s, h2, Ev.step (fun k => spec_l2Prefix.l0.eq_2 ..) (Ev.ifF (by omega) hl)⟩
  ·
   rw [if_neg h] at hl; exact ⟨[63], by simp, Ev.step (fun k => spec_l2Prefix.l0.eq_2 ..) (Ev.ifF (by omega) hl)⟩
 intro d
 induction d with
 | zero => intro x1 s h1 h2 h3; exact low x1 s (by omega) h3
 | succ d ih =>
  intro x1 s h1 h2 h3
  by_cases hp : x1 ≤ 0
  ·
   exact low x1 s hp h3
  by_cases h12 : s.length ≤ 12
  ·
   have hd : decide (((B s).size : Int) ≤ 12) = true := by simp; omega
   by_cases hin : (0 : Int) ≤ (rd_T76 N x1).f0 ∧ (rd_T76 N x1).f0 ≤ 25
   ·
    by_cases hpar : (rd_T76 N x1).f1 ≥ x1
    ·
     refine ⟨[63], by simp, Ev.step (fun k => spec_l2Prefix.l0.eq_2 ..) (Ev.ifT (by omega) ?_)⟩
     rw [hd]
     refine Ev.step (fun k => spec_l2Prefix.j1.eq_2 ..) (Ev.ifT rfl (Ev.ifT (by omega) (Ev.ifT h2 ?_)))
     rw [l1In_eq, decide_eq_true hin]
     exact Ev.some_bind (Ev.ifT rfl (Ev.ifT hpar (Ev.now _)))
    ·
     obtain ⟨r, hr, he⟩ := ih (rd_T76 N x1).f1 (UInt8.ofNat ((wrap64 (97 + (rd_T76 N x1).f0)) % 256).toNat :: s) (by omega) (by omega) (by simp; omega)
     refine ⟨r, hr, Ev.step (fun k => spec_l2Prefix.l0.eq_2 ..) (Ev.ifT (by omega) ?_)⟩
     rw [hd]
     refine Ev.step (fun k => spec_l2Prefix.j1.eq_2 ..) (Ev.ifT rfl (Ev.ifT (by omega) (Ev.ifT h2 ?_)))
     rw [l1In_eq, decide_eq_true hin]
     refine Ev.some_bind (Ev.ifT rfl (Ev.ifF hpar (Ev.some_bind ?_)))
     rw [strOfNums_B, append_B]
     exact Ev.ifT (by simp; omega) he
   ·
    refine ⟨[63], by simp, Ev.step (fun k => spec_l2Prefix.l0.eq_2 ..) (Ev.ifT (by omega) ?_)⟩
    rw [hd]
    refine Ev.step (fun k => spec_l2Prefix.j1.eq_2 ..) (Ev.ifT rfl (Ev.ifT (by omega) (Ev.ifT h2 ?_)))
    rw [l1In_eq, decide_eq_false hin]
    exact Ev.some_bind (Ev.ifF (by simp) (Ev.now _))
  ·
   have hd : decide (((B s).size : Int) ≤ 12) = false := by simp; omega
   refine ⟨[63], by simp, Ev.step (fun k => spec_l2Prefix.l0.eq_2 ..) (Ev.ifT (by omega) ?_)⟩
   rw [hd]
   have hl := l2Prefix_last x1 s N
   rwa [if_neg (by omega)] at hl
theorem l2Prefix_up {P : List Txt} (ws : List Txt) (hA : Asc P) (hC : Clo P) (hW : ∀ p ∈ P, wordL p = true) : ∀ (n : Nat) (p s : Txt), p.length = n → p ∈ P → (p ++ s).length ≤ 12 → Ev (fun k => spec_l2Prefix.l0 k (placeL P p : Int) (B s) (trN P ws)) (B (p ++ s)) := by
 intro n
 induction n with
 | zero =>
  intro p s h1 h2 h3
  have hp : p = [] := List.eq_nil_of_length_eq_zero h1
  subst hp
  obtain ⟨z1, z2⟩ := clo_zero hA hC
  have hz : placeL P [] = 0 := by have := placeL_get hA z1; rwa [z2] at this
  rw [hz]
  have hl := l2Prefix_last ((0 : Nat) : Int) s (trN P ws)
  exact Ev.step (fun k => spec_l2Prefix.l0.eq_2 ..) (Ev.ifF (by simp) (by simpa using hl))
 | succ n ih =>
  intro p s h1 h2 h3
  have hne : p ≠ [] := fun e => by rw [e] at h1; simp at h1
  obtain ⟨i1, i2⟩ := placeL_mem h2
  have i3 : 0 < placeL P p := by
   rcases Nat.eq_zero_or_pos (placeL P p) with h0 | h0
   ·
    rw [h0, (clo_zero hA hC).2] at i2; exact absurd i2.symm hne
   ·
    exact h0
  obtain ⟨j1, j2⟩ := clo_parent hA hC i1 i3
  rw [i2] at j1 j2
  have hsl : s.length ≤ 12 := by rw [List.length_append] at h3; omega
  have hd : decide (((B s).size : Int) ≤ 12) = true := by simp; omega
  have hf : rd_T76 (trN P ws) (placeL P p : Int) = ⟨ltrOf p, (placeL P p.dropLast : Int), decide (p ∈ ws)⟩ := by
   rw [rdN P ws _ i1, i2]; unfold mkN ndL; rw [if_neg hne, if_neg hne]
  obtain ⟨_, b1, b2⟩ := ltrOf_bd (hW p h2) hne
  refine Ev.step (fun k => spec_l2Prefix.l0.eq_2 ..) (Ev.ifT (by omega) ?_)
  rw [hd]
  refine Ev.step (fun k => spec_l2Prefix.j1.eq_2 ..) (Ev.ifT rfl (Ev.ifT (by omega) (Ev.ifT (by rw [trN_length]; omega) ?_)))
  rw [hf, l1In_eq, decide_eq_true ⟨b1, b2⟩]
  refine Ev.some_bind (Ev.ifT rfl (Ev.ifF (by show ¬ ((placeL P p.dropLast : Nat) : Int) ≥ ((placeL P p : Nat) : Int); omega) (Ev.some_bind ?_)))
  rw [letter_back (hW p h2) hne, append_B]
  have hpd : p.dropLast.length = n := by rw [List.length_dropLast]; omega
  have e1 : p.dropLast ++ ([p.getD (p.length - 1) 0] ++ s) = p ++ s := by rw [← List.append_assoc, dropLast_getD p hne]
  refine Ev.ifT (by simp; omega) ?_
  have := ih p.dropLast ([p.getD (p.length - 1) 0] ++ s) hpd (hC.2 p h2 hne) (by rw [e1]; exact h3)
  rwa [e1] at this
theorem l2Prefix_ev {P : List Txt} (ws : List Txt) (hA : Asc P) (hC : Clo P) (hW : ∀ p ∈ P, wordL p = true) (i : Nat) (hi : i < P.length) : Ev (fun k => spec_l2Prefix.f k (trN P ws) (i : Int)) (B (P.getD i [])) := by
 have hm := getD_mem hi
 have := l2Prefix_up ws hA hC hW _ (P.getD i []) [] rfl hm (by rw [List.append_nil]; exact (wordL_iff.1 (hW _ hm)).2)
 rw [placeL_get hA hi, List.append_nil] at this
 exact this
def setR : List Txt → List Txt → List ByteArray × Bool
 | [], acc => (acc.map B, decide (acc.length ≤ 40))
 | w :: r, acc => if wordL w = true then setR r (putL acc w) else ([], false)
theorem setR_eq : ∀ (l acc : List Txt), setR l acc = if l.all wordL = true then ((l.foldl putL acc).map B, decide ((l.foldl putL acc).length ≤ 40)) else ([], false)
 | [], acc => rfl
 | w :: r, acc => by
  unfold setR
  rw [setR_eq r (putL acc w), List.all_cons, List.foldl_cons]
  cases h : wordL w with
  | false => rw [if_neg Bool.false_ne_true, if_neg (by rw [Bool.false_and]; exact Bool.false_ne_true)]
  | true => rw [if_pos rfl, Bool.true_and]
theorem l2Set_loop {b : Nat} (hb : b ≤ 1000000) (ws : List Txt) (hl : ws.length ≤ 2147483648) (hw : ∀ w ∈ ws, w.length ≤ b) : ∀ (d i : Nat) (acc : List Txt), i + d = ws.length → acc.length ≤ i → (∀ w ∈ acc, w.length ≤ b) →
  Ev (fun k => spec_l2Set.l0 k (ws.map B) (acc.map B) (i : Int)) (setR (ws.drop i) acc) := by
 intro d
 induction d with
 | zero =>
  intro i acc h1 h2 h3
  rw [List.drop_of_length_le (by omega)]
  refine Ev.step (fun k => spec_l2Set.l0.eq_2 ..) (Ev.ifF (by simp; omega) ?_)
  have : decide (((acc.map B).length : Int) ≤ 40) = decide (acc.length ≤ 40) := by
   rw [List.length_map]; exact decide_eq_decide.2 (by omega)
  rw [this]
  exact Ev.now _
 | succ d ih =>
  intro i acc h1 h2 h3
  have hi : i < ws.length := by omega
  have hm := getD_mem hi
  rw [drop_cons_getD [] hi]
  refine Ev.step (fun k => spec_l2Set.l0.eq_2 ..) (Ev.ifT (by simp; omega) (Ev.ifT (by omega) ?_))
  rw [rdB ws i hi]
  refine Ev.bind (f := fun k t => if t = true then (spec_l2Put.f (acc.map B) (B (ws.getD i []))).bind fun t165 => spec_l2Set.l0 k (ws.map B) t165 (wrap64 ((i : Int) + 1)) else some ([], false)) (l2Word_ev _ (by have := hw _ hm; omega)) ?_
  unfold setR
  cases hq : wordL (ws.getD i []) with
  | false =>
   rw [if_neg Bool.false_ne_true]
   exact Ev.ifF Bool.false_ne_true (Ev.now _)
  | true =>
   rw [if_pos (show true = true from rfl)]
   refine Ev.ifT rfl ?_
   rw [l2Put_eq acc _ (by omega) (fun x hx => by have := h3 x hx; omega)]
   refine Ev.some_bind ?_
   have h6 := putL_length_le acc (ws.getD i [])
   have := ih (i + 1) (putL acc (ws.getD i [])) (by omega) (by omega) (fun x hx => by
    rcases (mem_putL _ _ _).1 hx with rfl | hx
    ·
     exact hw _ hm
    ·
     exact h3 x hx)
   rw [wrap64_succ i (by omega)]
   exact this
theorem l2Set_ev {b : Nat} (ws : List Txt) (hl : ws.length ≤ 2147483648) (hw : ∀ w ∈ ws, w.length ≤ b) (hb : b ≤ 1000000 := by omega) : Ev (fun k => spec_l2Set.f k (ws.map B)) (if ws.all wordL = true then ((setL ws).map B, decide ((setL ws).length ≤ 40)) else ([], false)) := by
 have := l2Set_loop hb ws hl hw ws.length 0 [] (by omega) (by simp) (by simp)
 rw [List.drop_zero, setR_eq] at this
 exact this
theorem l2Has_loop (l : List Txt) (p : Txt) (hl : l.length ≤ 4611686018427387903) : ∀ (d i : Nat), i + d = l.length → Ev (fun k => spec_l2Has.l0 k (l.map B) (B p) (i : Int)) (decide (p ∈ l.drop i)) := by
 intro d
 induction d with
 | zero =>
  intro i h
  rw [List.drop_of_length_le (by omega)]
  exact Ev.step (fun k => spec_l2Has.l0.eq_2 ..) (Ev.ifF (by simp; omega) (by simpa using Ev.now false))
 | succ d ih =>
  intro i h
  have hi : i < l.length := by omega
  refine Ev.step (fun k => spec_l2Has.l0.eq_2 ..) (Ev.ifT (by simp; omega) (Ev.ifT (by omega) ?_))
  rw [rdB l i hi, drop_cons_getD [] hi, toList_B, toList_B]
  by_cases e : l.getD i [] = p
  ·
   rw [show decide (p ∈ l.getD i [] :: l.drop (i + 1)) = true from decide_eq_true (by rw [e]; exact List.mem_cons_self)]
   exact Ev.ifT e (Ev.now _)
  ·
   rw [show decide (p ∈ l.getD i [] :: l.drop (i + 1)) = decide (p ∈ l.drop (i + 1)) from decide_eq_decide.2 ⟨fun h => (List.mem_cons.1 h).resolve_left (fun q => e q.symm), fun h => List.mem_cons_of_mem _ h⟩]
   refine Ev.ifF e ?_
   rw [wrap64_succ i (by omega)]
   exact ih (i + 1) (by omega)
theorem l2Has_ev (l : List Txt) (p : Txt) (hl : l.length ≤ 4611686018427387903) : Ev (fun k => spec_l2Has.f k (l.map B) (B p)) (decide (p ∈ l)) := by
 have := l2Has_loop l p hl l.length 0 (by omega)
 rw [List.drop_zero] at this
 exact this
theorem l2Place_loop (l : List Txt) (p : Txt) (hl : l.length ≤ 4611686018427387903) : ∀ (d i : Nat), i + d = l.length → Ev (fun k => spec_l2Place.l0 k (l.map B) (B p) (i : Int)) (if p ∈ l.drop i then ((i + placeL (l.drop i) p : Nat) : Int) else -1) := by
 intro d
 induction d with
 | zero =>
  intro i h
  rw [List.drop_of_length_le (by omega)]
  exact Ev.step (fun k => spec_l2Place.l0.eq_2 ..) (Ev.ifF (by simp; omega) (by simpa using Ev.now (-1 : Int)))
 | succ d ih =>
  intro i h
  have hi : i < l.length := by omega
  refine Ev.step (fun k => spec_l2Place.l0.eq_2 ..) (Ev.ifT (by simp; omega) (Ev.ifT (by omega) ?_))
  rw [rdB l i hi, drop_cons_getD [] hi, toList_B, toList_B]
  by_cases e : l.getD i [] = p
  ·
   rw [if_pos (show p ∈ l.getD i [] :: l.drop (i + 1) from by rw [e]; exact List.mem_cons_self), placeL, if_pos e]
   exact Ev.ifT e (Ev.now _)
  ·
   refine Ev.ifF e ?_
   rw [wrap64_succ i (by omega)]
   have h1 := ih (i + 1) (by omega)
   by_cases hm : p ∈ l.drop (i + 1)
   ·
    rw [if_pos hm] at h1
    rw [if_pos (List.mem_cons_of_mem _ hm), placeL, if_neg e]
    rwa [show i + (placeL (l.drop (i + 1)) p + 1) = i + 1 + placeL (l.drop (i + 1)) p from by omega]
   ·
    rw [if_neg hm] at h1
    rw [if_neg (fun h => hm ((List.mem_cons.1 h).resolve_left (fun q => e q.symm)))]
    exact h1
theorem l2Place_ev (l : List Txt) (p : Txt) (hl : l.length ≤ 4611686018427387903) (h : p ∈ l) : Ev (fun k => spec_l2Place.f k (l.map B) (B p)) (placeL l p : Int) := by
 have := l2Place_loop l p hl l.length 0 (by omega)
 rw [List.drop_zero, if_pos h, Nat.zero_add] at this
 exact this
def begF (w : Txt) : Nat → Nat → List Txt
 | _, 0 => []
 | n, d + 1 => w.take n :: begF w (n + 1) d
theorem begF_eq (w : Txt) : ∀ d n, begF w n d = (List.range d).map fun j => w.take (n + j)
 | 0, _ => rfl
 | d + 1, n => by
  rw [begF, begF_eq w d (n + 1), List.range_succ_eq_map, List.map_cons, List.map_map]
  congr 1
  exact List.map_congr_left fun j _ => by show w.take (n + 1 + j) = w.take (n + (j + 1)); congr 1; omega
theorem begs_begF (w : Txt) : begs w = begF w 1 w.length := by
 rw [begF_eq]
 exact List.map_congr_left fun j _ => by congr 1; omega
theorem begF_len (w : Txt) : ∀ d n, (begF w n d).length = d := fun d n => by rw [begF_eq]; simp
theorem l2Of_in (ws : List Txt) (hl : ws.length ≤ 40) (hw : ∀ w ∈ ws, w.length ≤ 12) (i : Nat) (hi : i < ws.length) (r : List S76) (acc2 : List Txt) (hr : Ev (fun k => spec_l2Of.l0 k (ws.map B) (acc2.map B) ((i + 1 : Nat) : Int)) r) :
  ∀ (d n : Nat) (acc : List Txt), 0 < n → n + d = (ws.getD i []).length + 1 → (begF (ws.getD i []) n d).foldl putL acc = acc2 → acc.length + d ≤ 1000 → (∀ x ∈ acc, x.length ≤ 12) → Ev (fun k => spec_l2Of.l1 k (ws.map B) (acc.map B) (i : Int) (n : Int)) r := by
 have hwi := hw _ (getD_mem hi)
 intro d
 induction d with
 | zero =>
  intro n acc h0 h1 h2 h3 h4
  rw [begF, List.foldl_nil] at h2
  subst h2
  refine Ev.step (fun k => spec_l2Of.l1.eq_2 ..) (Ev.ifT (by omega) (Ev.ifT (by simp; omega) (Ev.ifF (by rw [rdB ws i hi, size_B]; omega) ?_)))
  rw [wrap64_succ i (by omega)]
  exact hr
 | succ d ih =>
  intro n acc h0 h1 h2 h3 h4
  refine Ev.step (fun k => spec_l2Of.l1.eq_2 ..) (Ev.ifT (by omega) (Ev.ifT (by simp; omega) (Ev.ifT (by rw [rdB ws i hi, size_B]; omega) (Ev.ifT (by omega) ?_))))
  rw [rdB ws i hi, extract_B, List.drop_zero, Int.toNat_natCast, Nat.sub_zero, l2Put_eq acc _ (by omega) (fun x hx => by have := h4 x hx; omega)]
  refine Ev.some_bind ?_
  rw [wrap64_succ n (by omega)]
  have h6 := putL_length_le acc ((ws.getD i []).take n)
  exact ih (n + 1) (putL acc ((ws.getD i []).take n)) (by omega) (by omega) (by rw [← h2]; rfl) (by omega) (fun x hx => by
   rcases (mem_putL _ _ _).1 hx with rfl | hx
   ·
    rw [List.length_take]; omega
   ·
    exact h4 x hx)
theorem l2Of_out (ws : List Txt) (hl : ws.length ≤ 40) (hw : ∀ w ∈ ws, w.length ≤ 12) (r : List S76) (all : List Txt) (hr : Ev (fun k => spec_l2Of.l2 k (ws.map B) (all.map B) 0 []) r) :
  ∀ (d i : Nat) (acc : List Txt), i + d = ws.length → ((ws.drop i).flatMap begs).foldl putL acc = all → acc.length + 12 * d ≤ 600 → (∀ x ∈ acc, x.length ≤ 12) → Ev (fun k => spec_l2Of.l0 k (ws.map B) (acc.map B) (i : Int)) r := by
 intro d
 induction d with
 | zero =>
  intro i acc h1 h2 h3 h4
  rw [List.drop_of_length_le (by omega), List.flatMap_nil, List.foldl_nil] at h2
  subst h2
  exact Ev.step (fun k => spec_l2Of.l0.eq_2 ..) (Ev.ifF (by simp; omega) hr)
 | succ d ih =>
  intro i acc h1 h2 h3 h4
  have hi : i < ws.length := by omega
  have hwi := hw _ (getD_mem hi)
  rw [drop_cons_getD [] hi, List.flatMap_cons, List.foldl_append] at h2
  have h5 := foldl_putL_len (begs (ws.getD i [])) acc
  rw [begs_length] at h5
  have hn := ih (i + 1) _ (by omega) h2 (by omega) (fun x hx => by
   rcases (foldl_putL_mem _ _ _).1 hx with hx | hx
   ·
    exact Nat.le_trans (mem_begs.1 hx).2.length_le hwi
   ·
    exact h4 x hx)
  refine Ev.step (fun k => spec_l2Of.l0.eq_2 ..) (Ev.ifT (by simp; omega) ?_)
  exact l2Of_in ws hl hw i hi r _ hn (ws.getD i []).length 1 acc (by omega) (by omega) (by rw [← begs_begF]) (by omega) h4
theorem l2Of_nodes {ws P : List Txt} (hA : Asc P) (hC : Clo P) (hW : ∀ p ∈ P, wordL p = true) (hP : P.length ≤ 1000) (hl : ws.length ≤ 1000) : ∀ (d i : Nat) (acc : List S76), i + d = P.length → acc.length ≤ i →
  Ev (fun k => spec_l2Of.l2 k (ws.map B) (P.map B) (i : Int) acc) (acc ++ ((P.drop i).map fun p => mkN (ndL P ws p))) := by
 intro d
 induction d with
 | zero =>
  intro i acc h1 h2
  rw [List.drop_of_length_le (by omega), List.map_nil, List.append_nil]
  exact Ev.step (fun k => spec_l2Of.l2.eq_2 ..) (Ev.ifF (by simp; omega) (Ev.now _))
 | succ d ih =>
  intro i acc h1 h2
  have hi : i < P.length := by omega
  have hm := getD_mem hi
  rw [drop_cons_getD [] hi, List.map_cons]
  refine Ev.step (fun k => spec_l2Of.l2.eq_2 ..) (Ev.ifT (by simp; omega) (Ev.ifT (by omega) ?_))
  rw [rdB P i hi]
  refine Ev.bind (l2Has_ev ws (P.getD i []) (by omega)) ?_
  have hcons : ∀ x : S76, acc ++ (x :: (P.drop (i + 1)).map fun p => mkN (ndL P ws p)) = (acc ++ [x]) ++ (P.drop (i + 1)).map fun p => mkN (ndL P ws p) := fun x => by simp
  rw [hcons]
  by_cases h0 : i = 0
  ·
   have hp : P.getD i [] = [] := by rw [h0]; exact (clo_zero hA hC).2
   refine Ev.ifF (by omega) (Ev.ifT (by omega) ?_)
   have hx : mkN (ndL P ws (P.getD i [])) = ⟨-1, -1, decide (P.getD i [] ∈ ws)⟩ := by unfold mkN ndL; rw [if_pos hp, if_pos hp]
   rw [hx, wrap64_succ i (by omega)]
   exact ih (i + 1) _ (by omega) (by simp; omega)
  ·
   have hne := clo_pos hA hC hi (by omega)
   have hlen := List.length_pos_iff.2 hne
   have h12 := (wordL_iff.1 (hW _ hm)).2
   have hw1 : wrap64 (((B (P.getD i [])).size : Int) - 1) = ((P.getD i []).length - 1 : Nat) := by rw [size_B, wrap64_id (by omega) (by omega)]; omega
   rw [hw1]
   refine Ev.ifT (by omega) (Ev.ifT (by omega) (Ev.ifT (by rw [size_B]; omega) (Ev.ifT (by rw [size_B]; omega) ?_)))
   rw [extract_B, List.drop_zero, Int.toNat_natCast, Nat.sub_zero, ← List.dropLast_eq_take]
   refine Ev.bind (l2Place_ev P _ (by omega) (hC.2 _ hm hne)) (Ev.ifT (by omega) ?_)
   have hx : mkN (ndL P ws (P.getD i [])) = ⟨((bt (B (P.getD i [])) (((P.getD i []).length - 1 : Nat) : Int)) - 97) % 256, (placeL P (P.getD i []).dropLast : Int), decide (P.getD i [] ∈ ws)⟩ := by
    unfold mkN ndL
    rw [if_neg hne, if_neg hne, bt_B _ _ (by omega)]
    rfl
   rw [hx, wrap64_succ i (by omega)]
   exact ih (i + 1) _ (by omega) (by simp; omega)
theorem l2Of_ev {ws : List Txt} (h : OkW ws) : Ev (fun k => spec_l2Of.f k (ws.map B)) (trN (preL ws) ws) := by
 have h1 := h.pre
 have h2 := h.len
 have hn := l2Of_nodes (ws := ws) (asc_preL ws) (clo_preL ws) (fun p hp => preL_word h.word hp) (by omega) (by omega) (preL ws).length 0 [] (by omega) (by simp)
 rw [List.drop_zero, List.nil_append] at hn
 have e : (preL ws).map (fun p => mkN (ndL (preL ws) ws p)) = trN (preL ws) ws := by unfold trN nodesL; rw [List.map_map]; rfl
 rw [e] at hn
 exact l2Of_out ws h.len h.le _ (preL ws) hn ws.length 0 [[]] (by omega) rfl (by simp; omega) (by simp)
theorem rd_get (N : List S76) (i : Nat) (h : i < N.length) : rd_T76 N (i : Int) = N[i] := by
 unfold rd_T76
 rw [Int.toNat_natCast, getD_lt _ h]
theorem okW_setL {ws : List Txt} (h : ws.all wordL = true) (hl : (setL ws).length ≤ 40) : OkW (setL ws) := ⟨asc_setL ws, hl, fun w hw => List.all_eq_true.1 h w ((mem_setL ws w).1 hw)⟩
def IsTr (N : List S76) : Prop := ∃ ws, OkW ws ∧ N = trN (preL ws) ws
theorem IsTr.len {N : List S76} (h : IsTr N) : 1 ≤ N.length ∧ N.length ≤ 481 := by
 obtain ⟨ws, h, rfl⟩ := h
 rw [trN_length]
 exact ⟨(clo_zero (asc_preL ws) (clo_preL ws)).1, h.pre⟩
theorem in_eq (a b c : Int) : impl_in.f a b c = some (decide (b ≤ a ∧ a ≤ c)) := by
 unfold impl_in.f
 by_cases h : b ≤ a
 ·
  rw [if_pos (by omega)]; simp [h]
 ·
  rw [if_neg (by omega)]; simp [h]
abbrev Nd := S76
theorem bytesLess_eq : ∀ (x y : Txt), Op.bytesLess x y = decide (x < y)
 | [], [] => by rw [decide_eq_false (txt_irrefl [])]; rfl
 | _ :: _, [] => by rw [decide_eq_false (List.not_lt_nil _)]; rfl
 | [], b :: y => by rw [decide_eq_true (List.nil_lt_cons b y)]; rfl
 | a :: x, b :: y => by
  rw [Op.bytesLess, bytesLess_eq x y, Bool.eq_iff_iff, decide_eq_true_eq, List.cons_lt_cons_iff]
  simp
theorem less_eq (x y : Txt) : cmp_Less_string.f (B x) (B y) = some (decide (x < y)) := by
 unfold cmp_Less_string.f cmp_isNaN_string.f
 rw [toList_B, toList_B, ← bytesLess_eq]
 simp
def Srt (ws : List Txt) : Prop := ∀ j, j + 1 < ws.length → ¬ ws.getD (j + 1) [] < ws.getD j []
theorem Srt.le {ws : List Txt} (h : Srt ws) (i : Nat) : ∀ d, i + d < ws.length → ¬ ws.getD (i + d) [] < ws.getD i []
 | 0, _ => txt_irrefl _
 | d + 1, hd => fun hlt => by
  have h1 := h.le i d (by omega)
  have h2 := h (i + d) (by omega)
  exact h1 (List.lt_of_le_of_lt (List.not_lt.1 h2) hlt)
theorem srt_asc {ws : List Txt} (h : Asc ws) : Srt ws := fun j hj => txt_asymm (asc_get h hj (Nat.lt_succ_self j))
theorem half_eq (i j : Nat) (h : i + j ≤ 4611686018427387903) : wrap64 ((IntKind.u64.wrap (wrap64 ((i : Int) + (j : Int)))) / 2) = (((i + j) / 2 : Nat) : Int) := by
 have e1 : wrap64 ((i : Int) + (j : Int)) = ((i + j : Nat) : Int) := by rw [wrap64_id (by omega) (by omega)]; omega
 have e2 : IntKind.u64.wrap (((i + j : Nat) : Int)) = ((i + j : Nat) : Int) := by
  simp [IntKind.wrap, IntKind.bits, IntKind.signed]; omega
 rw [e1, e2, wrap64_id (by omega) (by omega)]
 omega
theorem search_loop (ws : List Txt) (p : Txt) (hl : ws.length ≤ 1000000000) (hs : Srt ws) : ∀ (d i j : Nat), i + d = j → j ≤ ws.length → (∀ m, m < i → ws.getD m [] < p) → (∀ m, j ≤ m → m < ws.length → ¬ ws.getD m [] < p) →
  ∃ q : Nat, q ≤ ws.length ∧ (∀ m, m < q → ws.getD m [] < p) ∧ (∀ m, q ≤ m → m < ws.length → ¬ ws.getD m [] < p) ∧ Ev (fun k => slices_BinarySearch_string_string.l0 k (ws.map B) (B p) (ws.length : Int) (i : Int) (j : Int)) ((q : Int), decide (p ∈ ws)) := by
 intro d
 induction d using Nat.strongRecOn with
 | _ d ih =>
  intro i j h1 h2 h3 h4
  by_cases hij : i < j
  ·
   have hh : (i + j) / 2 < ws.length := by omega
   by_cases hlt : ws.getD ((i + j) / 2) [] < p
   ·
    obtain ⟨q, q1, q2, q3, q4⟩ := ih (j - ((i + j) / 2 + 1)) (by omega) ((i + j) / 2 + 1) j (by omega) h2 (fun m hm => by
     by_cases e : m = (i + j) / 2
     ·
      rw [e]; exact hlt
     ·
      by_cases hmi : m < i
      ·
       exact h3 m hmi
      ·
       have hle := hs.le m ((i + j) / 2 - m) (by omega)
       rw [show m + ((i + j) / 2 - m) = (i + j) / 2 from by omega] at hle
       exact List.lt_of_le_of_lt (List.not_lt.1 hle) hlt) h4
    refine ⟨q, q1, q2, q3, Ev.step (fun k => slices_BinarySearch_string_string.l0.eq_2 ..) (Ev.ifT (by omega) ?_)⟩
    rw [half_eq i j (by omega)]
    refine Ev.ifT (by omega) (Ev.ifT (by rw [List.length_map]; omega) ?_)
    rw [rdB ws _ hh, less_eq, decide_eq_true hlt]
    refine Ev.some_bind (Ev.ifT rfl ?_)
    rw [wrap64_succ _ (by omega)]
    exact q4
   ·
    obtain ⟨q, q1, q2, q3, q4⟩ := ih ((i + j) / 2 - i) (by omega) i ((i + j) / 2) (by omega) (by omega) h3 (fun m hm hml => by
     have hle := hs.le ((i + j) / 2) (m - (i + j) / 2) (by omega)
     rw [show (i + j) / 2 + (m - (i + j) / 2) = m from by omega] at hle
     exact fun hp => hlt (List.lt_of_le_of_lt (List.not_lt.1 hle) hp))
    refine ⟨q, q1, q2, q3, Ev.step (fun k => slices_BinarySearch_string_string.l0.eq_2 ..) (Ev.ifT (by omega) ?_)⟩
    rw [half_eq i j (by omega)]
    refine Ev.ifT (by omega) (Ev.ifT (by rw [List.length_map]; omega) ?_)
    rw [rdB ws _ hh, less_eq, decide_eq_false hlt]
    exact Ev.some_bind (Ev.ifF Bool.false_ne_true q4)
  ·
   obtain rfl : i = j := by omega
   refine ⟨i, h2, h3, h4, Ev.step (fun k => slices_BinarySearch_string_string.l0.eq_2 ..) (Ev.ifF (by omega) ?_)⟩
   by_cases hn : i < ws.length
   ·
    refine Ev.ifT (by omega) (Ev.ifT (by omega) (Ev.ifT (by rw [List.length_map]; omega) ?_))
    rw [rdB ws i hn, toList_B, toList_B]
    by_cases e : ws.getD i [] = p
    ·
     rw [decide_eq_true (show p ∈ ws from e ▸ getD_mem hn)]
     exact Ev.ifT e (Ev.now _)
    ·
     have hm : ¬ p ∈ ws := fun hp => by
      obtain ⟨z1, z2⟩ := placeL_mem hp
      have hz : i ≤ placeL ws p := by
       by_cases hzi : placeL ws p < i
       ·
        have := h3 _ hzi; rw [z2] at this; exact absurd this (txt_irrefl _)
       ·
        omega
      have hle := hs.le i (placeL ws p - i) (by omega)
      rw [show i + (placeL ws p - i) = placeL ws p from by omega, z2] at hle
      exact e (txt_tri (h4 i (Nat.le_refl _) hn) hle)
     rw [decide_eq_false hm]
     refine Ev.ifF e ?_
     unfold slices_isNaN_string.f
     exact Ev.some_bind (Ev.ifF (by simp) (Ev.now _))
   ·
    have hm : ¬ p ∈ ws := fun hp => by
     obtain ⟨z1, z2⟩ := placeL_mem hp
     have := h3 _ (show placeL ws p < i by omega)
     rw [z2] at this
     exact txt_irrefl _ this
    rw [decide_eq_false hm]
    exact Ev.ifF (by omega) (Ev.now _)
theorem search_ev (ws : List Txt) (p : Txt) (hl : ws.length ≤ 1000000000) (hs : Srt ws) : ∃ q : Nat, q ≤ ws.length ∧ (∀ m, m < q → ws.getD m [] < p) ∧ (∀ m, q ≤ m → m < ws.length → ¬ ws.getD m [] < p) ∧ Ev (fun k => slices_BinarySearch_string_string.f k (ws.map B) (B p)) ((q : Int), decide (p ∈ ws)) := by
 unfold slices_BinarySearch_string_string.f
 have := search_loop ws p hl hs ws.length 0 ws.length (by omega) (Nat.le_refl _) (fun m hm => absurd hm (Nat.not_lt_zero _)) (fun m h1 h2 => absurd h2 (by omega))
 rw [List.length_map]
 exact this
def prefGo : List Nd → List Txt → Option (List Txt)
 | [], acc => some acc
 | n :: r, acc => if 0 ≤ n.f1 ∧ n.f1 < (acc.length : Int) ∧ 0 ≤ n.f0 ∧ n.f0 ≤ 25 then prefGo r (acc ++ [acc.getD n.f1.toNat [] ++ [UInt8.ofNat (97 + n.f0.toNat)]]) else none
def prefR : Option (List Txt) → List ByteArray × Bool
 | some ps => (ps.map B, true)
 | none => ([], false)
theorem letter_eq (n : Int) (h0 : 0 ≤ n) (h1 : n ≤ 25) : impl_letter.f n = some (B [UInt8.ofNat (97 + n.toNat)]) := by
 unfold impl_letter.f
 rw [strOfNums_B]
 congr 3
 rw [wrap64_id (by omega) (by omega)]
 congr 1
 omega
theorem getD_le {acc : List Txt} {b : Nat} (h : ∀ p ∈ acc, p.length ≤ b) (n : Nat) : (acc.getD n []).length ≤ b := by
 by_cases hn : n < acc.length
 ·
  exact h _ (getD_mem hn)
 ·
  rw [List.getD_eq_getElem?_getD, List.getElem?_eq_none (by omega)]; simp
theorem pref_loop (N' : List Nd) (hN : N'.length ≤ 1000000) : ∀ (d i : Nat) (acc : List Txt), i + d = N'.length → acc.length = i + 1 → (∀ p ∈ acc, p.length ≤ i) →
  Ev (fun k => impl_Trie_prefixes.l0 k (acc.map B) N' (N'.length : Int) (i : Int)) (prefR (prefGo (N'.drop i) acc)) := by
 intro d
 induction d with
 | zero =>
  intro i acc h1 h2 h3
  rw [List.drop_of_length_le (by omega)]
  exact Ev.step (fun k => impl_Trie_prefixes.l0.eq_2 ..) (Ev.ifF (by omega) (Ev.now _))
 | succ d ih =>
  intro i acc h1 h2 h3
  have hi : i < N'.length := by omega
  rw [List.drop_eq_getElem_cons hi]
  refine Ev.step (fun k => impl_Trie_prefixes.l0.eq_2 ..) (Ev.ifT (by omega) (Ev.ifT (by omega) (Ev.ifT (by omega) ?_)))
  rw [rd_get N' i hi, in_eq]
  unfold prefGo
  by_cases ha : 0 ≤ N'[i].f1 ∧ N'[i].f1 ≤ (i : Int)
  ·
   rw [decide_eq_true ha]
   refine Ev.some_bind (Ev.ifT rfl ?_)
   rw [in_eq]
   by_cases hb : 0 ≤ N'[i].f0 ∧ N'[i].f0 ≤ 25
   ·
    rw [decide_eq_true hb, if_pos ⟨ha.1, by omega, hb.1, hb.2⟩]
    refine Ev.some_bind (Ev.ifT rfl (Ev.ifT ha.1 (Ev.ifT (by rw [List.length_map]; omega) ?_)))
    rw [letter_eq _ hb.1 hb.2]
    refine Ev.some_bind ?_
    obtain ⟨m, hm⟩ : ∃ m : Nat, N'[i].f1 = (m : Int) := ⟨N'[i].f1.toNat, by omega⟩
    have hml : m < acc.length := by omega
    have hmb := getD_le h3 m
    rw [hm, rdB acc m hml, Int.toNat_natCast]
    refine Ev.ifT (by rw [size_B, size_B, List.length_singleton]; omega) (Ev.ifT (by rw [List.length_map]; omega) ?_)
    rw [append_B, wrap64_succ i (by omega)]
    have := ih (i + 1) (acc ++ [acc.getD m [] ++ [UInt8.ofNat (97 + N'[i].f0.toNat)]]) (by omega) (by simp; omega) (fun p hp => by
     rcases List.mem_append.1 hp with hp | hp
     ·
      have := h3 p hp; omega
     ·
      rw [List.mem_singleton.1 hp]; simp; simpa using hmb)
    rw [List.map_append, List.map_singleton] at this
    exact this
   ·
    rw [decide_eq_false hb, if_neg (fun h => hb h.2.2)]
    exact Ev.some_bind (Ev.ifF Bool.false_ne_true (Ev.now _))
  ·
   rw [decide_eq_false ha, if_neg (fun h => ha ⟨h.1, by omega⟩)]
   exact Ev.some_bind (Ev.ifF Bool.false_ne_true (Ev.now _))
def prefN (N : List Nd) : Option (List Txt) := if 1 ≤ N.length ∧ N.length ≤ 481 then prefGo (N.drop 1) [[]] else none
theorem prefixes_ev (N : List Nd) : Ev (fun k => impl_Trie_prefixes.f k N) (prefR (prefN N)) := by
 unfold impl_Trie_prefixes.f prefN
 simp only [in_eq]
 by_cases h : 1 ≤ N.length ∧ N.length ≤ 481
 ·
  rw [if_pos h, decide_eq_true (show (1 : Int) ≤ (N.length : Int) ∧ (N.length : Int) ≤ 481 by omega)]
  refine Ev.some_bind (Ev.ifT rfl (Ev.ifT (by omega) (Ev.some_bind ?_)))
  exact pref_loop (N.drop 1) (by rw [List.length_drop]; omega) (N.drop 1).length 0 [[]] (by omega) rfl (by simp)
 ·
  rw [if_neg h, decide_eq_false (show ¬ ((1 : Int) ≤ (N.length : Int) ∧ (N.length : Int) ≤ 481) by omega)]
  exact Ev.some_bind (Ev.ifF Bool.false_ne_true (Ev.now _))
theorem letterB_of (m : Nat) (h : m ≤ 25) : letterB (UInt8.ofNat (97 + m)) = true := by
 have : (UInt8.ofNat (97 + m)).toNat = 97 + m := by simp; omega
 simp only [letterB, this, decide_eq_true_eq]; omega
theorem prefGo_ok : ∀ (r : List Nd) (acc ps : List Txt), prefGo r acc = some ps → (∀ p ∈ acc, ∀ c ∈ p, letterB c = true) → (∀ p ∈ ps, ∀ c ∈ p, letterB c = true) ∧ ps.length = acc.length + r.length
 | [], acc, ps, h, ha => by
  obtain rfl := Option.some.inj h
  exact ⟨ha, rfl⟩
 | n :: r, acc, ps, h, ha => by
  unfold prefGo at h
  by_cases hc : 0 ≤ n.f1 ∧ n.f1 < (acc.length : Int) ∧ 0 ≤ n.f0 ∧ n.f0 ≤ 25
  ·
   rw [if_pos hc] at h
   obtain ⟨h1, h2⟩ := prefGo_ok r _ ps h (fun p hp c hcp => by
    rcases List.mem_append.1 hp with hp | hp
    ·
     exact ha p hp c hcp
    ·
     rw [List.mem_singleton.1 hp] at hcp
     rcases List.mem_append.1 hcp with hcp | hcp
     ·
      exact ha _ (getD_mem (by omega)) c hcp
     ·
      rw [List.mem_singleton.1 hcp]; exact letterB_of _ (by omega))
   exact ⟨h1, by rw [h2]; simp; omega⟩
  ·
   rw [if_neg hc] at h; cases h
theorem letter_last {p : Txt} (hw : wordL p = true) (h : p ≠ []) : UInt8.ofNat (97 + (ltrOf p).toNat) = p.getD (p.length - 1) 0 := by
 obtain ⟨h1, h2, h3⟩ := ltrOf_bd hw h
 have h4 := letter_bd ((wordL_iff.1 hw).1 _ (getLast_mem h))
 have e : 97 + (ltrOf p).toNat = (p.getD (p.length - 1) 0).toNat := by omega
 rw [e]; simp
theorem trN_get {P ws : List Txt} (i : Nat) (h : i < (trN P ws).length) : (trN P ws)[i] = mkN (ndL P ws (P.getD i [])) := by
 have h2 : i < P.length := by rwa [trN_length] at h
 rw [← rdN P ws i h2, rd_get _ i h]
theorem prefGo_tr {P : List Txt} (ws : List Txt) (hA : Asc P) (hC : Clo P) (hW : ∀ p ∈ P, wordL p = true) : ∀ (d i : Nat), i + d = P.length → 0 < i → prefGo ((trN P ws).drop i) (P.take i) = some P := by
 intro d
 induction d with
 | zero =>
  intro i h1 h2
  rw [List.drop_of_length_le (by rw [trN_length]; omega), List.take_of_length_le (by omega)]
  rfl
 | succ d ih =>
  intro i h1 h2
  have hi : i < P.length := by omega
  have hit : i < (trN P ws).length := by rw [trN_length]; exact hi
  have hne := clo_pos hA hC hi h2
  have hm := getD_mem hi
  obtain ⟨j1, j2⟩ := clo_parent hA hC hi h2
  obtain ⟨_, b1, b2⟩ := ltrOf_bd (hW _ hm) hne
  rw [List.drop_eq_getElem_cons hit, trN_get i hit]
  have hx : mkN (ndL P ws (P.getD i [])) = ⟨ltrOf (P.getD i []), (placeL P (P.getD i []).dropLast : Int), decide (P.getD i [] ∈ ws)⟩ := by unfold mkN ndL; rw [if_neg hne, if_neg hne]
  rw [hx]
  unfold prefGo
  have hl : (P.take i).length = i := by rw [List.length_take]; omega
  rw [if_pos ⟨Int.natCast_nonneg _, by show ((placeL P (P.getD i []).dropLast : Nat) : Int) < ((P.take i).length : Int); rw [hl]; exact Int.ofNat_lt.2 j1, b1, b2⟩]
  simp only [Int.toNat_natCast]
  have hg : (P.take i).getD (placeL P (P.getD i []).dropLast) [] = (P.getD i []).dropLast := by
   rw [getD_lt [] (by rw [hl]; exact j1), List.getElem_take, ← getD_lt [] (by omega), j2]
  rw [hg, letter_last (hW _ hm) hne, dropLast_getD _ hne, ← take_succ_getD [] hi]
  exact ih (i + 1) (by omega) (by omega)
theorem prefN_tr {ws : List Txt} (h : OkW ws) : prefN (trN (preL ws) ws) = some (preL ws) := by
 obtain ⟨z1, z2⟩ := clo_zero (asc_preL ws) (clo_preL ws)
 unfold prefN
 rw [trN_length, if_pos ⟨z1, h.pre⟩]
 have := prefGo_tr ws (asc_preL ws) (clo_preL ws) (fun p hp => preL_word h.word hp) ((preL ws).length - 1) 1 (by omega) (by omega)
 rw [show (preL ws).take 1 = [[]] from by rw [take_succ_getD [] z1, z2]; rfl] at this
 exact this
theorem prefixes_tr {ws : List Txt} (h : OkW ws) : Ev (fun k => impl_Trie_prefixes.f k (trN (preL ws) ws)) ((preL ws).map B, true) := by
 have := prefixes_ev (trN (preL ws) ws)
 rw [prefN_tr h] at this
 exact this
theorem trieOf_in (ws0 xs : List Txt) (w : Txt) (hw : w.length ≤ 12) (i : Nat) (hi : i ≤ 100000) (r : List Nd) (acc2 : List Txt) (hr : Ev (fun k => impl_trieOf.l0 k (ws0.map B) (acc2.map B) (xs.map B) (xs.length : Int) ((i + 1 : Nat) : Int)) r) :
  ∀ (d n : Nat) (acc : List Txt), n + d = w.length → acc ++ begF w (n + 1) d = acc2 → acc2.length ≤ 1000000 → Ev (fun k => impl_trieOf.l1 k (ws0.map B) (acc.map B) (B w) (xs.map B) (xs.length : Int) (i : Int) (w.length : Int) (n : Int)) r := by
 intro d
 induction d with
 | zero =>
  intro n acc h1 h2 h3
  rw [begF, List.append_nil] at h2
  subst h2
  refine Ev.step (fun k => impl_trieOf.l1.eq_2 ..) (Ev.ifF (by omega) ?_)
  rw [wrap64_succ i (by omega)]
  exact hr
 | succ d ih =>
  intro n acc h1 h2 h3
  have hl : acc.length ≤ 1000000 := by rw [← h2, List.length_append] at h3; omega
  refine Ev.step (fun k => impl_trieOf.l1.eq_2 ..) (Ev.ifT (by omega) ?_)
  rw [wrap64_succ n (by omega)]
  refine Ev.ifT (by omega) (Ev.ifT (by rw [size_B]; omega) (Ev.ifT (by rw [List.length_map]; omega) ?_))
  rw [extract_B, List.drop_zero, Int.toNat_natCast, Nat.sub_zero]
  have := ih (n + 1) (acc ++ [w.take (n + 1)]) (by omega) (by rw [← h2, begF]; simp) h3
  rw [List.map_append, List.map_singleton] at this
  exact this
theorem trieOf_out (ws0 xs : List Txt) (hl : xs.length ≤ 1000) (hw : ∀ w ∈ xs, w.length ≤ 12) (r : List Nd) (hr : Ev (fun k => impl_trieOf.l2 k (ws0.map B) ((preL xs).map B) ((preL xs).length : Int) 0 []) r) :
  ∀ (d i : Nat) (acc : List Txt), i + d = xs.length → acc ++ (xs.drop i).flatMap begs = [] :: xs.flatMap begs → Ev (fun k => impl_trieOf.l0 k (ws0.map B) (acc.map B) (xs.map B) (xs.length : Int) (i : Int)) r := by
 have hall := flatMap_begs_length xs hw
 have hpl := preL_length hw
 intro d
 induction d with
 | zero =>
  intro i acc h1 h2
  rw [List.drop_of_length_le (by omega), List.flatMap_nil, List.append_nil] at h2
  subst h2
  refine Ev.step (fun k => impl_trieOf.l0.eq_2 ..) (Ev.ifF (by omega) ?_)
  rw [set_eq _ (by rw [List.length_cons]; omega)]
  refine Ev.some_bind (Ev.ifT ?_ ?_)
  ·
   unfold SM.okL
   rw [Bool.and_eq_true, List.all_eq_true, decide_eq_true_eq]
   refine ⟨fun x hx => ?_, by rw [List.length_map]; show (preL xs).length ≤ _; omega⟩
   obtain ⟨y, hy, rfl⟩ := List.mem_map.1 hx
   have hy' : y ∈ preL xs := hy
   have : y.length ≤ 12 := by
    rcases mem_preL.1 hy' with rfl | ⟨w, hw', _, hp⟩
    ·
     simp
    ·
     exact Nat.le_trans hp.length_le (hw w hw')
   rw [decide_eq_true_eq, size_B]; omega
  ·
   rw [List.length_map]
   exact hr
 | succ d ih =>
  intro i acc h1 h2
  have hi : i < xs.length := by omega
  rw [drop_cons_getD [] hi, List.flatMap_cons, ← List.append_assoc] at h2
  refine Ev.step (fun k => impl_trieOf.l0.eq_2 ..) (Ev.ifT (by omega) (Ev.ifT (by omega) (Ev.ifT (by rw [List.length_map]; omega) ?_)))
  rw [rdB xs i hi, size_B]
  have hlen : (acc ++ begs (xs.getD i [])).length ≤ 1000000 := by
   have := congrArg List.length h2
   rw [List.length_append, List.length_cons] at this
   omega
  exact trieOf_in ws0 xs _ (hw _ (getD_mem hi)) i (by omega) r _ (ih (i + 1) _ (by omega) h2) (xs.getD i []).length 0 acc (by omega) (by rw [begs_begF]) hlen
theorem at_take {P : List Txt} (hA : Asc P) (q : Txt) (j : Nat) (hj : j < P.length) (hq : P.getD j [] = q) : ∀ n, n ≤ P.length → j < n → SM.at_ (List.take n (P.map B)) (B q) = (j : Int) := by
 intro n
 induction n with
 | zero => intro _ h; omega
 | succ n ih =>
  intro h1 h2
  have hn : n < P.length := by omega
  rw [← List.map_take, take_succ_getD [] hn, List.map_append, List.map_singleton]
  unfold SM.at_
  rw [List.reverse_append, List.reverse_singleton, List.singleton_append, SM.atR, data_B, data_B]
  by_cases e : P.getD n [] = q
  ·
   have : n = j := asc_inj hA hn hj (e.trans hq.symm)
   rw [if_pos e, List.length_reverse, List.length_map, List.length_take]; omega
  ·
   have hjn : j < n := by
    rcases Nat.lt_or_ge j n with h | h
    ·
     exact h
    ·
     have : j = n := by omega
     subst this; exact absurd hq e
   rw [if_neg e, List.map_take]
   exact ih (by omega) hjn
theorem trieOf_nodes {ws P : List Txt} (hs : Srt ws) (hA : Asc P) (hC : Clo P) (hW : ∀ p ∈ P, wordL p = true) (hP : P.length ≤ 100000) (hl : ws.length ≤ 100000) : ∀ (d i : Nat) (acc : List Nd), i + d = P.length → acc.length ≤ i →
  Ev (fun k => impl_trieOf.l2 k (ws.map B) (P.map B) (P.length : Int) (i : Int) acc) (acc ++ ((P.drop i).map fun p => mkN (ndL P ws p))) := by
 intro d
 induction d with
 | zero =>
  intro i acc h1 h2
  rw [List.drop_of_length_le (by omega), List.map_nil, List.append_nil]
  exact Ev.step (fun k => impl_trieOf.l2.eq_2 ..) (Ev.ifF (by omega) (Ev.now _))
 | succ d ih =>
  intro i acc h1 h2
  have hi : i < P.length := by omega
  have hm := getD_mem hi
  rw [drop_cons_getD [] hi, List.map_cons]
  refine Ev.step (fun k => impl_trieOf.l2.eq_2 ..) (Ev.ifT (by omega) (Ev.ifT (by omega) (Ev.ifT (by rw [List.length_map]; omega) ?_)))
  rw [rdB P i hi]
  obtain ⟨q, _, _, _, hq⟩ := search_ev ws (P.getD i []) (by omega) hs
  refine Ev.bind hq ?_
  have hcons : ∀ x : Nd, acc ++ (x :: (P.drop (i + 1)).map fun p => mkN (ndL P ws p)) = (acc ++ [x]) ++ (P.drop (i + 1)).map fun p => mkN (ndL P ws p) := fun x => by simp
  rw [hcons, toList_B]
  by_cases hp : P.getD i [] = []
  ·
   refine Ev.ifT hp (Ev.ifT (by omega) ?_)
   have hx : mkN (ndL P ws (P.getD i [])) = ⟨-1, -1, decide (P.getD i [] ∈ ws)⟩ := by unfold mkN ndL; rw [if_pos hp, if_pos hp]
   rw [hx, wrap64_succ i (by omega)]
   exact ih (i + 1) _ (by omega) (by simp; omega)
  ·
   have h0 : 0 < i := by
    rcases Nat.eq_zero_or_pos i with e | e
    ·
     rw [e, (clo_zero hA hC).2] at hp; exact absurd rfl hp
    ·
     exact e
   have hlen := List.length_pos_iff.2 hp
   have h12 := (wordL_iff.1 (hW _ hm)).2
   obtain ⟨j1, j2⟩ := clo_parent hA hC hi h0
   have hw1 : wrap64 (((B (P.getD i [])).size : Int) - 1) = ((P.getD i []).length - 1 : Nat) := by rw [size_B, wrap64_id (by omega) (by omega)]; omega
   rw [hw1]
   refine Ev.ifF hp (Ev.ifT (by omega) (Ev.ifT (by rw [size_B]; omega) (Ev.ifT (by rw [size_B]; omega) (Ev.ifT (by omega) ?_))))
   rw [extract_B, List.drop_zero, Int.toNat_natCast, Int.toNat_natCast, Nat.sub_zero, ← List.dropLast_eq_take, at_take hA _ _ (by omega) j2 (i + 1) (by omega) (by omega)]
   have hx : mkN (ndL P ws (P.getD i [])) = ⟨((bt (B (P.getD i [])) (((P.getD i []).length - 1 : Nat) : Int)) - 97) % 256, (placeL P (P.getD i []).dropLast : Int), decide (P.getD i [] ∈ ws)⟩ := by
    unfold mkN ndL
    rw [if_neg hp, if_neg hp, bt_B _ _ (by omega)]
    rfl
   rw [hx, wrap64_succ i (by omega)]
   exact ih (i + 1) _ (by omega) (by simp; omega)
theorem trieOf_srt {ws : List Txt} (hs : Srt ws) (hw : ∀ w ∈ ws, wordL w = true) (hl : ws.length ≤ 1000) : Ev (fun k => impl_trieOf.f k (ws.map B)) (trN (preL ws) ws) := by
 have hle : ∀ w ∈ ws, w.length ≤ 12 := fun w h => (wordL_iff.1 (hw w h)).2
 have hpl := preL_length hle
 have hn := trieOf_nodes hs (asc_preL ws) (clo_preL ws) (fun p hp => preL_word hw hp) (by omega) (by omega) (preL ws).length 0 [] (by omega) (by simp)
 rw [List.drop_zero, List.nil_append] at hn
 have e : (preL ws).map (fun p => mkN (ndL (preL ws) ws p)) = trN (preL ws) ws := by unfold trN nodesL; rw [List.map_map]; rfl
 rw [e] at hn
 unfold impl_trieOf.f
 rw [List.length_map]
 exact trieOf_out ws ws hl hle _ hn ws.length 0 [[]] (by omega) rfl
theorem trieOf_ev {ws : List Txt} (h : OkW ws) : Ev (fun k => impl_trieOf.f k (ws.map B)) (trN (preL ws) ws) := trieOf_srt (srt_asc h.asc) h.word (by have := h.len; omega)
theorem trN_set {ws : List Txt} : trN (preL ws) ws = trN (preL (setL ws)) (setL ws) := by
 have e : preL (setL ws) = preL ws := preL_congr fun w => mem_setL ws w
 rw [e]
 unfold trN nodesL
 rw [List.map_map, List.map_map]
 refine List.map_congr_left fun p _ => ?_
 show mkN (ndL (preL ws) ws p) = mkN (ndL (preL ws) (setL ws) p)
 unfold ndL
 rw [show decide (p ∈ ws) = decide (p ∈ setL ws) from decide_eq_decide.2 (mem_setL ws p).symm]
theorem f1_iff {P : List Txt} (ws : List Txt) (hA : Asc P) (hC : Clo P) {i j : Nat} (hi : i < P.length) (hj : j < P.length) : (rd_T76 (trN P ws) (j : Int)).f1 = (i : Int) ↔ P.getD j [] ≠ [] ∧ (P.getD j []).dropLast = P.getD i [] := by
 rw [rdN P ws j hj]
 unfold mkN ndL
 by_cases h0 : P.getD j [] = []
 ·
  rw [if_pos h0, if_pos h0]
  exact ⟨fun e => by have : (-1 : Int) = (i : Int) := e; omega, fun h => absurd h0 h.1⟩
 ·
  rw [if_neg h0, if_neg h0]
  obtain ⟨_, h2⟩ := placeL_mem (hC.2 _ (getD_mem hj) h0)
  constructor
  ·
   intro e
   have e2 : placeL P (P.getD j []).dropLast = i := by have : ((placeL P (P.getD j []).dropLast : Nat) : Int) = (i : Int) := e; omega
   rw [e2] at h2
   exact ⟨h0, h2.symm⟩
  ·
   rintro ⟨_, e⟩
   show ((placeL P (P.getD j []).dropLast : Nat) : Int) = (i : Int)
   rw [e, placeL_get hA hi]
def kidF (P : List Txt) (p : Txt) : Nat → Nat → List Int
 | _, 0 => []
 | n, d + 1 => (if P.getD n [] ≠ [] ∧ (P.getD n []).dropLast = p then [(n : Int)] else []) ++ kidF P p (n + 1) d
def kidI (P : List Txt) (p : Txt) : List Int := kidF P p 0 P.length
theorem kidF_len (P : List Txt) (p : Txt) : ∀ d n, n + d = P.length → (kidF P p n d).length = ((P.drop n).filter fun q => decide (q ≠ [] ∧ q.dropLast = p)).length
 | 0, n, h => by rw [List.drop_of_length_le (by omega)]; rfl
 | d + 1, n, h => by
  rw [kidF, List.length_append, kidF_len P p d (n + 1) (by omega), drop_cons_getD [] (show n < P.length by omega), List.filter_cons]
  by_cases hc : P.getD n [] ≠ [] ∧ (P.getD n []).dropLast = p
  ·
   rw [if_pos hc, if_pos (decide_eq_true hc)]; simp only [List.length_cons, List.length_nil]; omega
  ·
   rw [if_neg hc, if_neg (by rw [decide_eq_false hc]; exact Bool.false_ne_true), List.length_nil]; omega
theorem kidI_len (P : List Txt) (p : Txt) : (kidI P p).length = (kidsL P p).length := by
 have := kidF_len P p P.length 0 (by omega)
 rw [List.drop_zero] at this
 exact this
theorem kidF_le (P : List Txt) (p : Txt) : ∀ d n, (kidF P p n d).length ≤ d
 | 0, _ => Nat.le_refl _
 | d + 1, n => by
  have := kidF_le P p d (n + 1)
  rw [kidF, List.length_append]
  split
  ·
   rw [List.length_singleton]; omega
  ·
   rw [List.length_nil]; omega
theorem kidF_split (P : List Txt) (p : Txt) : ∀ a n d, kidF P p n (a + d) = kidF P p n a ++ kidF P p (n + a) d
 | 0, n, d => by rw [Nat.zero_add, Nat.add_zero]; rfl
 | a + 1, n, d => by
  rw [show a + 1 + d = (a + d) + 1 from by omega, kidF, kidF, kidF_split P p a (n + 1) d, List.append_assoc, show n + 1 + a = n + (a + 1) from by omega]
theorem kidF_none {P : List Txt} (hA : Asc P) {i : Nat} (hi : i < P.length) : ∀ d n, n + d ≤ i + 1 → kidF P (P.getD i []) n d = []
 | 0, _, _ => rfl
 | d + 1, n, h => by
  rw [kidF, kidF_none hA hi d (n + 1) (by omega), if_neg, List.append_nil]
  rintro ⟨h1, h2⟩
  have h3 := txt_dropLast_lt _ h1
  rw [h2] at h3
  have := asc_get_lt hA hi (show n < P.length by omega) h3
  omega
theorem kids_ev {P : List Txt} (ws : List Txt) (hA : Asc P) (hC : Clo P) (hP : P.length ≤ 1000000) {i : Nat} (hi : i < P.length) : Ev (fun k => impl_Trie_kids.f k (trN P ws) (i : Int)) (kidI P (P.getD i [])) := by
 have loop : ∀ d n (acc : List Int), n + d = P.length → acc.length ≤ n → Ev (fun k => impl_Trie_kids.l0 k (i : Int) acc (trN P ws) ((trN P ws).length : Int) (n : Int)) (acc ++ kidF P (P.getD i []) n d) := by
  intro d
  induction d with
  | zero =>
   intro n acc h1 h2
   rw [kidF, List.append_nil]
   exact Ev.step (fun k => impl_Trie_kids.l0.eq_2 ..) (Ev.ifF (by rw [trN_length]; omega) (Ev.now _))
  | succ d ih =>
   intro n acc h1 h2
   have hn : n < P.length := by omega
   refine Ev.step (fun k => impl_Trie_kids.l0.eq_2 ..) (Ev.ifT (by rw [trN_length]; omega) (Ev.ifT (by omega) (Ev.ifT (by rw [trN_length]; omega) ?_)))
   rw [kidF, wrap64_succ n (by omega)]
   by_cases hc : P.getD n [] ≠ [] ∧ (P.getD n []).dropLast = P.getD i []
   ·
    rw [if_pos hc, ← List.append_assoc]
    exact Ev.ifT ((f1_iff ws hA hC hi hn).2 hc) (Ev.ifT (by omega) (ih (n + 1) _ (by omega) (by simp; omega)))
   ·
    rw [if_neg hc, List.nil_append]
    exact Ev.ifF (fun h => hc ((f1_iff ws hA hC hi hn).1 h)) (ih (n + 1) acc (by omega) (by omega))
 exact loop P.length 0 [] (by omega) (by simp)
theorem l2Kids_ev {P : List Txt} (ws : List Txt) (hA : Asc P) (hC : Clo P) (hP : P.length ≤ 1000000) {i : Nat} (hi : i < P.length) : Ev (fun k => spec_l2Kids.f k (trN P ws) (i : Int)) (kidI P (P.getD i [])) := by
 have loop : ∀ d n (acc : List Int), n + d = P.length → acc.length ≤ n → Ev (fun k => spec_l2Kids.l0 k (i : Int) acc (n : Int) (trN P ws)) (acc ++ kidF P (P.getD i []) n d) := by
  intro d
  induction d with
  | zero =>
   intro n acc h1 h2
   rw [kidF, List.append_nil]
   exact Ev.step (fun k => spec_l2Kids.l0.eq_2 ..) (Ev.ifF (by rw [trN_length]; omega) (Ev.now _))
  | succ d ih =>
   intro n acc h1 h2
   have hn : n < P.length := by omega
   refine Ev.step (fun k => spec_l2Kids.l0.eq_2 ..) (Ev.ifT (by rw [trN_length]; omega) (Ev.ifT (by omega) ?_))
   rw [kidF, wrap64_succ n (by omega)]
   by_cases hc : P.getD n [] ≠ [] ∧ (P.getD n []).dropLast = P.getD i []
   ·
    rw [if_pos hc, ← List.append_assoc]
    exact Ev.ifT ((f1_iff ws hA hC hi hn).2 hc) (Ev.ifT (by omega) (ih (n + 1) _ (by omega) (by simp; omega)))
   ·
    rw [if_neg hc, List.nil_append]
    exact Ev.ifF (fun h => hc ((f1_iff ws hA hC hi hn).1 h)) (ih (n + 1) acc (by omega) (by omega))
 have h := loop (P.length - (i + 1)) (i + 1) [] (by omega) (by simp)
 have e : kidI P (P.getD i []) = kidF P (P.getD i []) (i + 1) (P.length - (i + 1)) := by
  unfold kidI
  have h1 := kidF_split P (P.getD i []) (i + 1) 0 (P.length - (i + 1))
  rw [show i + 1 + (P.length - (i + 1)) = P.length from by omega, kidF_none hA hi (i + 1) 0 (by omega), List.nil_append, Nat.zero_add] at h1
  exact h1
 rw [e]
 unfold spec_l2Kids.f
 rw [wrap64_succ i (by omega)]
 exact h
theorem areLettersW_eq (l : List UInt8) (hl : l.length ≤ 9223372036854775807) : impl_areLetters.f (B l) = some (l.all letterB) := by
 unfold impl_areLetters.f
 rw [if_pos (by simpa using hl), data_B]
 rfl
theorem isWord_eq (l : List UInt8) : impl_isWord.f (B l) = some (wordL l) := by
 unfold impl_isWord.f wordL
 by_cases h : l.length ≤ 12
 ·
  rw [if_pos (by simp; omega), areLettersW_eq l (by omega)]; simp [h]
 ·
  rw [if_neg (by simp; omega)]; simp [h]
end Go.Proofs.YtfhffcefpnkllaaGreatDoor.L
