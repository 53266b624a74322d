/-
  Part 6 of the proof that FnSubstrings returns true for every input: the functions that it reaches, each with its contract, and the law.
  Conditions: those of the given statement, no others.
-/
import Derived.Test.YtblcdgnihmcdpaaGreatDoorCFnSubstringsW0
import Derived.Lib.SlicesCompact
import Derived.Test.YtblcdgnihmcdpaaGreatDoorRows
import Derived.WalkKit
import Derived.ProofKit
import Derived.OpenShut
import Derived.ShutString
import Derived.ChangeOld
import Derived.Below
import Derived.SizedLaws
import Derived.Lay
import Derived.LaidOnce
import Derived.SevenTiedAt
import Derived.Test.YtblcdgnihmcdpaaGreatDoorCards
import Derived.Test.YtblcdgnihmcdpaaGreatDoorTie
import Derived.Test.YtblcdgnihmcdpaaGreatDoorCFnSubstrings1
import Derived.Test.YtblcdgnihmcdpaaGreatDoorCFnSubstrings0
import Derived.Test.YtblcdgnihmcdpaaGreatDoorCFnSubstrings2
import Derived.Test.YtblcdgnihmcdpaaGreatDoorCFnSubstrings3
import Derived.Test.YtblcdgnihmcdpaaGreatDoorCFnSubstrings4
set_option linter.unusedVariables false
set_option linter.unusedSimpArgs false
set_option maxHeartbeats 8000000
set_option maxRecDepth 100000
namespace Go.Proofs.YtblcdgnihmcdpaaGreatDoor.M
open Go.Lib
theorem keeps_iff (d : Array Txt) (j : Nat) : keeps d j = true ↔ (j = 0 ∨ d[j]! ≠ d[j - 1]!) := by simp [keeps]
theorem mem_compact (zs : List Txt) (y : Txt) : y ∈ compact zs ↔ y ∈ zs := by
 unfold compact compactUpTo
 simp only [List.mem_map, List.mem_filter, List.mem_range]
 constructor
 ·
  rintro ⟨j, ⟨hj, _⟩, rfl⟩
  rw [getElem!_pos zs.toArray j (by simpa using hj)]
  simp
 intro hy
 have hex : ∃ n, ∃ h : n < zs.length, zs[n] = y := by
  obtain ⟨n, h, e⟩ := List.mem_iff_getElem.1 hy
  exact ⟨n, h, e⟩
 have key : ∀ n, (∃ h : n < zs.length, zs[n] = y) → ∃ m, m < zs.length ∧ keeps zs.toArray m = true ∧ zs.toArray[m]! = y := by
  intro n
  induction n with
  | zero => rintro ⟨h, e⟩; exact ⟨0, h, (keeps_iff _ _).2 (.inl rfl), by rw [getElem!_pos zs.toArray 0 (by simpa using h)]; simpa using e⟩
  | succ n ih =>
   rintro ⟨h, e⟩
   have e1 : zs.toArray[n + 1]! = y := by rw [getElem!_pos zs.toArray (n + 1) (by simpa using h)]; simpa using e
   by_cases hk : keeps zs.toArray (n + 1) = true
   ·
    exact ⟨n + 1, h, hk, e1⟩
   have : zs.toArray[n + 1]! = zs.toArray[n]! := by
    by_cases h9 : zs.toArray[n + 1]! = zs.toArray[n]!
    ·
     exact h9
    exact absurd ((keeps_iff _ _).2 (.inr h9)) hk
   refine ih ⟨by omega, ?_⟩
   have h2 : zs.toArray[n]! = zs[n] := by rw [getElem!_pos zs.toArray n (by simp; omega)]; simp
   rw [← h2, ← this, e1]
 obtain ⟨n, h⟩ := hex
 obtain ⟨m, h1, h2, h3⟩ := key n h
 exact ⟨m, ⟨h1, h2⟩, h3⟩
theorem pair_get {zs : List Txt} (h : zs.Pairwise (fun a b => decide (a ≤ b) = true)) {i j : Nat} (hij : i < j) (hj : j < zs.length) : zs.toArray[i]! ≤ zs.toArray[j]! := by
 have := List.pairwise_iff_getElem.1 h i j (by omega) hj hij
 rw [getElem!_pos zs.toArray i (by simp; omega), getElem!_pos zs.toArray j (by simpa using hj)]
 simpa using this
theorem asc_compact {zs : List Txt} (h : zs.Pairwise (fun a b => decide (a ≤ b) = true)) : Asc (compact zs) := by
 unfold Asc compact compactUpTo
 rw [List.pairwise_map]
 have h1 : ((List.range zs.length).filter (keeps zs.toArray)).Pairwise (· < ·) := List.Pairwise.filter _ List.pairwise_lt_range
 refine List.Pairwise.imp_of_mem ?_ h1
 intro a b ha hb hab
 rw [List.mem_filter, List.mem_range] at ha hb
 have hk := (keeps_iff _ _).1 hb.2
 have hne : zs.toArray[b]! ≠ zs.toArray[b - 1]! := by
  rcases hk with h0 | h0
  ·
   omega
  exact h0
 have h2 : zs.toArray[b - 1]! ≤ zs.toArray[b]! := pair_get h (by omega) hb.1
 have h3 : zs.toArray[a]! ≤ zs.toArray[b - 1]! := by
  by_cases e : a = b - 1
  ·
   subst e; exact List.le_refl _
  exact pair_get h (by omega) (by omega)
 have h4 : zs.toArray[b - 1]! < zs.toArray[b]! := by
  by_cases hlt : zs.toArray[b - 1]! < zs.toArray[b]!
  ·
   exact hlt
  exact absurd (List.le_antisymm (List.not_lt.1 hlt) h2) hne
 exact List.lt_of_le_of_lt h3 h4
theorem sorted_compact (l : List Txt) : compact (l.mergeSort fun x y => decide (x ≤ y)) = setL l := by
 have hp : (l.mergeSort fun x y => decide (x ≤ y)).Pairwise (fun a b => decide (a ≤ b) = true) := by
  refine List.pairwise_mergeSort ?_ ?_ l
  ·
   intro a b c h1 h2
   simp only [decide_eq_true_eq] at h1 h2 ⊢
   exact List.le_trans h1 h2
  intro a b
  simp only [Bool.or_eq_true, decide_eq_true_eq]
  exact List.le_total a b
 refine asc_ext _ _ (asc_compact hp) (asc_setL l) fun y => ?_
 rw [mem_compact, List.mem_mergeSort, mem_setL]
end Go.Proofs.YtblcdgnihmcdpaaGreatDoor.M
namespace Go.Proofs.YtblcdgnihmcdpaaGreatDoor.M
open Go.RowKit Go.Proofs.YtblcdgnihmcdpaaGreatDoorW.PrintWords
theorem rdB (l : List Txt) (n : Nat) (h : n < l.length) : rdOf ByteArray.empty (l.map B) (n : Int) = B (l.getD n []) := by
 simp [rdOf, List.getD_eq_getElem?_getD, h]
end Go.Proofs.YtblcdgnihmcdpaaGreatDoor.M
namespace Go.Proofs.YtblcdgnihmcdpaaGreatDoor.L
open Go.RowKit Go.Proofs.YtblcdgnihmcdpaaGreatDoor.P Go.Proofs.YtblcdgnihmcdpaaGreatDoor.M Go.Proofs.YtblcdgnihmcdpaaGreatDoorW.PrintWords Go.Proofs.YtblcdgnihmcdpaaGreatDoorW.PrintLast Go.Proofs.YtblcdgnihmcdpaaGreatDoorW.PrintMore
theorem map_data (l : List Txt) : (l.map B).map (fun x => x.data.toList) = l := by
 rw [List.map_map]
 exact (List.map_congr_left (fun x _ => data_B x)).trans (List.map_id _)
theorem l2Put_eq (l : List Txt) (w : Txt) (h : l.length ≤ 4294967296) (h2 : ∀ x ∈ l, x.length ≤ 4611686018427387900) : sF59.f (l.map B) (B w) = some ((putL l w).map B) := by
 have hall : ((l.map B).all fun x => decide (x.size ≤ 4611686018427387900)) = true := List.all_eq_true.2 fun x hx => by
  obtain ⟨y, hy, rfl⟩ := List.mem_map.1 hx
  simpa using h2 y hy
 unfold sF59.f
 rw [map_data, data_B, if_pos ⟨by simpa using h, hall⟩]
theorem set_eq (l : List Txt) (h : l.length ≤ 4294967296) : iF25.f (l.map B) = some ((setL l).map B) := by
 unfold iF25.f
 rw [if_pos (by simpa using h), map_data, sorted_compact]
 rfl
end Go.Proofs.YtblcdgnihmcdpaaGreatDoor.L
namespace Go.Proofs.YtblcdgnihmcdpaaGreatDoor.M
theorem txt_lt_snoc : ∀ (p : Txt) (x : UInt8), p < p ++ [x]
 | [], x => List.nil_lt_cons x []
 | a :: p, x => List.cons_lt_cons_iff.2 (.inr ⟨rfl, txt_lt_snoc p x⟩)
theorem dropLast_getD (p : Txt) (h : p ≠ []) : p.dropLast ++ [p.getD (p.length - 1) 0] = p := by
 have h0 := List.length_pos_iff.2 h
 have h1 : p.length - 1 < p.length := by omega
 rw [List.dropLast_eq_take, getD_lt 0 h1, ← List.take_succ_eq_append_getElem h1, List.take_of_length_le (by omega)]
theorem txt_dropLast_lt (p : Txt) (h : p ≠ []) : p.dropLast < p := by
 have := txt_lt_snoc p.dropLast (p.getD (p.length - 1) 0)
 rwa [dropLast_getD p h] at this
def Clo (P : List Txt) : Prop := [] ∈ P ∧ ∀ p ∈ P, p ≠ [] → p.dropLast ∈ P
def begs (w : Txt) : List Txt := (List.range w.length).map fun n => w.take (n + 1)
def preL (ws : List Txt) : List Txt := setL ([] :: ws.flatMap begs)
theorem mem_begs {w p : Txt} : p ∈ begs w ↔ p ≠ [] ∧ p <+: w := by
 constructor
 ·
  intro h
  obtain ⟨n, hn, rfl⟩ := List.mem_map.1 h
  rw [List.mem_range] at hn
  exact ⟨fun e => by have := congrArg List.length e; rw [List.length_take, List.length_nil] at this; omega, List.take_prefix _ _⟩
 rintro ⟨h1, h2⟩
 have h3 := h2.length_le
 have h4 := List.length_pos_iff.2 h1
 refine List.mem_map.2 ⟨p.length - 1, List.mem_range.2 (by omega), ?_⟩
 rw [show p.length - 1 + 1 = p.length from by omega]
 exact (List.prefix_iff_eq_take.1 h2).symm
theorem mem_preL {ws : List Txt} {p : Txt} : p ∈ preL ws ↔ p = [] ∨ ∃ w ∈ ws, p ≠ [] ∧ p <+: w := by
 unfold preL
 rw [mem_setL, List.mem_cons, List.mem_flatMap]
 simp only [mem_begs]
theorem clo_preL (ws : List Txt) : Clo (preL ws) := by
 refine ⟨mem_preL.2 (.inl rfl), fun p hp hne => ?_⟩
 rcases mem_preL.1 hp with rfl | ⟨w, hw, _, h⟩
 ·
  exact absurd rfl hne
 by_cases h0 : p.dropLast = []
 ·
  rw [h0]; exact mem_preL.2 (.inl rfl)
 exact mem_preL.2 (.inr ⟨w, hw, h0, (List.dropLast_prefix p).trans h⟩)
theorem asc_preL (ws : List Txt) : Asc (preL ws) := asc_setL _
theorem foldl_putL_len : ∀ (l acc : List Txt), (l.foldl putL acc).length ≤ acc.length + l.length
 | [], _ => Nat.le_refl _
 | x :: l, acc => by
  have h1 := foldl_putL_len l (putL acc x)
  have h2 := putL_length_le acc x
  rw [List.foldl_cons, List.length_cons]; omega
theorem setL_length_le (l : List Txt) : (setL l).length ≤ l.length := by have := foldl_putL_len l []; simpa [setL] using this
theorem begs_length (w : Txt) : (begs w).length = w.length := by simp [begs]
theorem flatMap_begs_length : ∀ (ws : List Txt), (∀ w ∈ ws, w.length ≤ 12) → (ws.flatMap begs).length ≤ 12 * ws.length
 | [], _ => by simp
 | w :: ws, h => by
  have h1 := flatMap_begs_length ws fun x hx => h x (List.mem_cons_of_mem _ hx)
  have h2 := h w (by simp)
  rw [List.flatMap_cons, List.length_append, begs_length, List.length_cons]; omega
theorem preL_length {ws : List Txt} (h : ∀ w ∈ ws, w.length ≤ 12) : (preL ws).length ≤ 12 * ws.length + 1 := by
 have h1 := flatMap_begs_length ws h
 have h2 := setL_length_le ([] :: ws.flatMap begs)
 unfold preL
 rw [List.length_cons] at h2
 omega
def placeL : List Txt → Txt → Nat
 | [], _ => 0
 | x :: r, p => if x = p then 0 else placeL r p + 1
theorem placeL_mem : ∀ {P : List Txt} {p : Txt}, p ∈ P → placeL P p < P.length ∧ P.getD (placeL P p) [] = p
 | [], _, h => by simp at h
 | x :: r, p, h => by
  by_cases h0 : x = p
  ·
   simp [placeL, h0]
  have h1 : p ∈ r := by
   rcases List.mem_cons.1 h with e | e
   ·
    exact absurd e.symm h0
   exact e
  obtain ⟨h2, h3⟩ := placeL_mem h1
  simp only [placeL, if_neg h0, List.length_cons]
  exact ⟨by omega, by simpa using h3⟩
theorem getD_mem {P : List Txt} {i : Nat} (h : i < P.length) : P.getD i [] ∈ P := by rw [getD_lt [] h]; exact List.getElem_mem h
theorem asc_get {P : List Txt} (hA : Asc P) {i j : Nat} (hj : j < P.length) (hij : i < j) : P.getD i [] < P.getD j [] := by
 have := List.pairwise_iff_getElem.1 hA i j (by omega) hj hij
 rwa [getD_lt [] hj, getD_lt [] (show i < P.length by omega)]
theorem asc_get_lt {P : List Txt} (hA : Asc P) {i j : Nat} (hi : i < P.length) (hj : j < P.length) (h : P.getD i [] < P.getD j []) : i < j := by
 rcases Nat.lt_trichotomy i j with h1 | h1 | h1
 ·
  exact h1
 ·
  subst h1; exact absurd h (txt_irrefl _)
 exact absurd (asc_get hA hi h1) (txt_asymm h)
theorem asc_inj {P : List Txt} (hA : Asc P) {i j : Nat} (hi : i < P.length) (hj : j < P.length) (h : P.getD i [] = P.getD j []) : i = j := by
 rcases Nat.lt_trichotomy i j with h1 | h1 | h1
 ·
  exact absurd (h ▸ asc_get hA hj h1) (txt_irrefl _)
 ·
  exact h1
 exact absurd (h ▸ asc_get hA hi h1) (txt_irrefl _)
theorem clo_zero {P : List Txt} (hA : Asc P) (hC : Clo P) : 0 < P.length ∧ P.getD 0 [] = [] := by
 obtain ⟨h1, h2⟩ := placeL_mem hC.1
 refine ⟨by omega, ?_⟩
 rcases Nat.eq_zero_or_pos (placeL P []) with h0 | h0
 ·
  rwa [h0] at h2
 have := asc_get hA h1 h0
 rw [h2] at this
 exact absurd this (List.not_lt_nil _)
theorem clo_pos {P : List Txt} (hA : Asc P) (hC : Clo P) {i : Nat} (hi : i < P.length) (h0 : 0 < i) : P.getD i [] ≠ [] := fun e => by
 obtain ⟨h1, h2⟩ := clo_zero hA hC
 have := asc_inj hA hi h1 (e.trans h2.symm)
 omega
theorem clo_parent {P : List Txt} (hA : Asc P) (hC : Clo P) {i : Nat} (hi : i < P.length) (h0 : 0 < i) :
  placeL P (P.getD i []).dropLast < i ∧ P.getD (placeL P (P.getD i []).dropLast) [] = (P.getD i []).dropLast := by
 have hne := clo_pos hA hC hi h0
 obtain ⟨h1, h2⟩ := placeL_mem (hC.2 _ (getD_mem hi) hne)
 exact ⟨asc_get_lt hA h1 hi (by rw [h2]; exact txt_dropLast_lt _ hne), h2⟩
def ltrOf (p : Txt) : Int := (((p.getD (p.length - 1) 0).toNat : Int) - 97) % 256
def ndL (P ws : List Txt) (p : Txt) : Int × Int × Bool := (if p = [] then -1 else ltrOf p, if p = [] then -1 else (placeL P p.dropLast : Int), decide (p ∈ ws))
def nodesL (P ws : List Txt) : List (Int × Int × Bool) := P.map (ndL P ws)
def wordL (w : Txt) : Bool := w.all letterB && decide (w.length ≤ 12)
structure OkW (ws : List Txt) : Prop where
 asc : Asc ws
 len : ws.length ≤ 40
 word : ∀ w ∈ ws, wordL w = true
theorem wordL_iff {w : Txt} : wordL w = true ↔ (∀ c ∈ w, letterB c = true) ∧ w.length ≤ 12 := by
 unfold wordL
 rw [Bool.and_eq_true, List.all_eq_true, decide_eq_true_eq]
theorem OkW.le {ws : List Txt} (h : OkW ws) : ∀ w ∈ ws, w.length ≤ 12 := fun w hw => (wordL_iff.1 (h.word w hw)).2
theorem OkW.pre {ws : List Txt} (h : OkW ws) : (preL ws).length ≤ 481 := by
 have h1 := preL_length h.le
 have h2 := h.len
 omega
theorem wordL_pre {p w : Txt} (h : p <+: w) (hw : wordL w = true) : wordL p = true := by
 obtain ⟨h1, h2⟩ := wordL_iff.1 hw
 exact wordL_iff.2 ⟨fun c hc => h1 c (h.subset hc), Nat.le_trans h.length_le h2⟩
theorem preL_word {ws : List Txt} (h : ∀ w ∈ ws, wordL w = true) {p : Txt} (hp : p ∈ preL ws) : wordL p = true := by
 rcases mem_preL.1 hp with rfl | ⟨w, hw, _, h1⟩
 ·
  rfl
 exact wordL_pre h1 (h w hw)
end Go.Proofs.YtblcdgnihmcdpaaGreatDoor.M
namespace Go.Proofs.YtblcdgnihmcdpaaGreatDoor.L
open Go.RowKit Go.Proofs.YtblcdgnihmcdpaaGreatDoor.P Go.Proofs.YtblcdgnihmcdpaaGreatDoor.M Go.Proofs.YtblcdgnihmcdpaaGreatDoorW.PrintWords Go.Proofs.YtblcdgnihmcdpaaGreatDoorW.PrintLast Go.Proofs.YtblcdgnihmcdpaaGreatDoorW.PrintMore
def text8 (l : List UInt8) : Bool := l.all letterB && decide (l.length ≤ 16)
theorem l8Text_loop (l : List UInt8) (hl : l.length ≤ 4611686018427387903) : ∀ (d n : Nat), n + d = l.length → Ev (fun k => sF66.l0 k (B l) (n : Int)) ((l.drop n).all letterB && decide (l.length ≤ 16)) := by
 have last : ∀ n : Nat, Ev (fun k => sF66.j1 k (B l) (n : Int) false) (decide (l.length ≤ 16)) := by
  intro n
  refine Ev.step (fun k => sF66.j1.eq_2 ..) (Ev.ifF (by simp) ?_)
  have : decide (((B l).size : Int) ≤ 16) = decide (l.length ≤ 16) := by simp; omega
  rw [this]; exact Ev.now _
 intro d
 induction d with
 | zero =>
  intro n hn
  refine Ev.step (fun k => sF66.l0.eq_2 ..) (Ev.ifF (by simp; omega) ?_)
  rw [List.drop_of_length_le (by omega)]; simpa using last n
 | succ d ih =>
  intro n hn
  have h1 : n < l.length := by omega
  refine Ev.step (fun k => sF66.l0.eq_2 ..) (Ev.ifT (by simp; omega) ?_)
  rw [drop_cons_getD 0 h1]
  by_cases h16 : n ≤ 16
  ·
   rw [show decide ((n : Int) ≤ 16) = true from by simp; omega]
   refine Ev.step (fun k => sF66.j1.eq_2 ..) (Ev.ifT rfl (Ev.ifT (by omega) (Ev.ifT (by simp; omega) ?_)))
   simp only [bt_B l n h1]
   by_cases ha : ((l.getD n 0).toNat : Int) < 97
   ·
    refine Ev.ifT ha ?_
    have : letterB (l.getD n 0) = false := by simp only [letterB, decide_eq_false_iff_not]; omega
    simpa only [List.all_cons, this, Bool.false_and] using Ev.now false
   refine Ev.ifF ha ?_
   by_cases hz : ((l.getD n 0).toNat : Int) > 122
   ·
    refine Ev.ifT hz ?_
    have : letterB (l.getD n 0) = false := by simp only [letterB, decide_eq_false_iff_not]; omega
    simpa only [List.all_cons, this, Bool.false_and] using Ev.now false
   refine Ev.ifF hz ?_
   have : letterB (l.getD n 0) = true := by simp only [letterB, decide_eq_true_eq]; omega
   simpa only [wrap64_succ n (by omega), List.all_cons, this, Bool.true_and] using ih (n + 1) (by omega)
  rw [show decide ((n : Int) ≤ 16) = false from by simp; omega]
  have : ((l.getD n 0 :: l.drop (n + 1)).all letterB && decide (l.length ≤ 16)) = decide (l.length ≤ 16) := by
   have : decide (l.length ≤ 16) = false := by simp; omega
   rw [this]; simp
  rw [this]; exact last n
theorem l8Text_ev (l : List UInt8) (hl : l.length ≤ 4611686018427387903) : Ev (fun k => sF66.f k (B l)) (text8 l) := by
 simpa [sF66.f, text8] using l8Text_loop l hl l.length 0 (by omega)
theorem areLetters_eq (l : List UInt8) (hl : l.length ≤ 9223372036854775807) : iF17.f (B l) = some (l.all letterB) := by
 unfold iF17.f
 rw [if_pos (by simpa using hl), data_B]
 rfl
theorem isText_eq (l : List UInt8) : iF20.f (B l) = some (text8 l) := by
 unfold iF20.f text8
 by_cases h : l.length ≤ 16
 ·
  rw [if_pos (by simp; omega), areLetters_eq l (by omega)]; simp [h]
 rw [if_neg (by simp; omega)]; simp [h]
def colsL (s : Txt) (i : Nat) : Nat → Nat → List Txt
 | _, 0 => []
 | j, d + 1 => (s.drop i).take (j - i) :: colsL s i (j + 1) d
def rowsL (s : Txt) : Nat → Nat → List Txt
 | _, 0 => []
 | i, d + 1 => colsL s i (i + 1) (s.length - i) ++ rowsL s (i + 1) d
def rawL (s : Txt) : List Txt := rowsL s 0 s.length
def partsL (s : Txt) : List Txt := setL (rawL s)
theorem colsL_length (s : Txt) (i : Nat) : ∀ d j, (colsL s i j d).length = d
 | 0, _ => rfl
 | d + 1, j => by simp [colsL, colsL_length s i d (j + 1)]
theorem rowsL_length (s : Txt) : ∀ d i, i + d = s.length → (rowsL s i d).length ≤ d * s.length
 | 0, _, _ => by simp [rowsL]
 | d + 1, i, h => by
  have := rowsL_length s d (i + 1) (by omega)
  simp only [rowsL, List.length_append, colsL_length, Nat.succ_mul]; omega
theorem rawL_length (s : Txt) (h : s.length ≤ 16) : (rawL s).length ≤ 256 := by
 have h1 := rowsL_length s s.length 0 (by omega)
 have h2 : s.length * s.length ≤ 16 * 16 := Nat.mul_le_mul h h
 unfold rawL; omega
theorem mem_colsL (s : Txt) (i : Nat) : ∀ d j x, x ∈ colsL s i j d → x.length ≤ s.length ∧ (i < j → j + d ≤ s.length + 1 → 0 < x.length) ∧ ∃ m, j ≤ m ∧ m < j + d ∧ x = (s.drop i).take (m - i)
 | 0, _, _, h => by simp [colsL] at h
 | d + 1, j, x, h => by
  rcases List.mem_cons.1 h with rfl | h
  ·
   exact ⟨by simp; omega, fun h1 h2 => by simp; omega, j, Nat.le_refl _, by omega, rfl⟩
  obtain ⟨h1, h2, m, h3, h4, h5⟩ := mem_colsL s i d (j + 1) x h
  exact ⟨h1, fun h6 h7 => h2 (by omega) (by omega), m, by omega, by omega, h5⟩
theorem mem_rowsL (s : Txt) : ∀ d i x, i + d = s.length → x ∈ rowsL s i d → x.length ≤ s.length ∧ 0 < x.length
 | 0, _, _, _, h => by simp [rowsL] at h
 | d + 1, i, x, hd, h => by
  rcases List.mem_append.1 h with h | h
  ·
   obtain ⟨h1, h2, _⟩ := mem_colsL s i _ _ x h
   exact ⟨h1, h2 (by omega) (by omega)⟩
  exact mem_rowsL s d (i + 1) x (by omega) h
theorem mem_partsL {s x : Txt} (h : x ∈ partsL s) : x.length ≤ s.length ∧ 0 < x.length := mem_rowsL s _ 0 x (by omega) ((mem_setL _ _).1 h)
theorem foldl_putL_length : ∀ (l acc : List Txt), (l.foldl putL acc).length ≤ acc.length + l.length
 | [], _ => Nat.le_refl _
 | x :: l, acc => by
  have h1 := foldl_putL_length l (putL acc x)
  have h2 := putL_length_le acc x
  rw [List.foldl_cons, List.length_cons]; omega
theorem partsL_length (s : Txt) (h : s.length ≤ 16) : (partsL s).length ≤ 256 := by
 have h1 := foldl_putL_length (rawL s) []
 have h2 := rawL_length s h
 unfold partsL setL; simp at h1; omega
theorem piece_B (s : Txt) (i j : Nat) : (B s).extract (i : Int).toNat (j : Int).toNat = B ((s.drop i).take (j - i)) := by simp
theorem impl_cols (s : Txt) (hs : s.length ≤ 16) (i : Nat) (hi : i < s.length) (r : List ByteArray) (acc2 : List Txt) (hr : Ev (fun k => iF27.l0 k (B s) (acc2.map B) (s.length : Int) ((i + 1 : Nat) : Int)) r) :
  ∀ d j acc, i < j → j + d = s.length + 1 → acc ++ colsL s i j d = acc2 → acc2.length ≤ 4000 → Ev (fun k => iF27.l1 k (B s) (acc.map B) (i : Int) (j : Int) (s.length : Int) (i : Int)) r := by
 intro d
 induction d with
 | zero =>
  intro j acc h1 h2 h3 h4
  simp only [colsL, List.append_nil] at h3
  subst h3
  refine Ev.step (fun k => iF27.l1.eq_2 ..) (Ev.ifF (by simp; omega) ?_)
  simpa only [wrap64_succ i (by omega)] using hr
 | succ d ih =>
  intro j acc h1 h2 h3 h4
  have hl : acc.length ≤ 4000 := by rw [← h3] at h4; simp at h4; omega
  refine Ev.step (fun k => iF27.l1.eq_2 ..) (Ev.ifT (by simp; omega) (Ev.ifT (by omega) (Ev.ifT (by omega) (Ev.ifT (by simp; omega) ?_))))
  rw [piece_B]
  have := ih (j + 1) (acc ++ [(s.drop i).take (j - i)]) (by omega) (by omega) (by rw [← h3]; simp [colsL]) h4
  simpa only [wrap64_succ j (by omega), List.map_append, List.map_cons, List.map_nil] using this
theorem impl_rows (s : Txt) (hs : s.length ≤ 16) (all : List Txt) (hall : all.length ≤ 4000) : ∀ d i acc, i + d = s.length → acc ++ rowsL s i d = all → Ev (fun k => iF27.l0 k (B s) (acc.map B) (s.length : Int) (i : Int)) ((setL all).map B) := by
 intro d
 induction d with
 | zero =>
  intro i acc h1 h2
  simp only [rowsL, List.append_nil] at h2
  subst h2
  refine Ev.step (fun k => iF27.l0.eq_2 ..) (Ev.ifF (by omega) ?_)
  rw [set_eq acc (by omega)]
  exact Ev.some_bind (Ev.now _)
 | succ d ih =>
  intro i acc h1 h2
  refine Ev.step (fun k => iF27.l0.eq_2 ..) (Ev.ifT (by omega) ?_)
  have h3 : (acc ++ colsL s i (i + 1) (s.length - i)) ++ rowsL s (i + 1) d = all := by rw [← h2]; simp [rowsL]
  have hr := ih (i + 1) _ (by omega) h3
  have := impl_cols s hs i (by omega) _ _ hr (s.length - i) (i + 1) acc (by omega) (by omega) rfl (by rw [← h3] at hall; simp at hall ⊢; omega)
  simpa only [wrap64_succ i (by omega)] using this
theorem substrings_ev (s : Txt) (hs : s.length ≤ 16) : Ev (fun k => iF27.f k (B s)) ((partsL s).map B) := by
 have := impl_rows s hs (rawL s) (by have := rawL_length s hs; omega) s.length 0 [] (by omega) rfl
 simpa [iF27.f, partsL] using this
theorem spec_cols (s : Txt) (hs : s.length ≤ 16) (i : Nat) (hi : i < s.length) (r : List ByteArray) (acc2 : List Txt) (hr : Ev (fun k => sF65.l0 k (B s) (acc2.map B) ((i + 1 : Nat) : Int)) r) :
  ∀ d j acc, i < j → j + d = s.length + 1 → (colsL s i j d).foldl putL acc = acc2 → acc.length + d ≤ 4000 → (∀ x ∈ acc, x.length ≤ 16) → Ev (fun k => sF65.l1 k (B s) (acc.map B) (i : Int) (j : Int)) r := by
 intro d
 induction d with
 | zero =>
  intro j acc h1 h2 h3 h4 h5
  simp only [colsL, List.foldl_nil] at h3
  subst h3
  refine Ev.step (fun k => sF65.l1.eq_2 ..) (Ev.ifF (by simp; omega) ?_)
  simpa only [wrap64_succ i (by omega)] using hr
 | succ d ih =>
  intro j acc h1 h2 h3 h4 h5
  refine Ev.step (fun k => sF65.l1.eq_2 ..) (Ev.ifT (by simp; omega) (Ev.ifT (by omega) (Ev.ifT (by omega) ?_)))
  rw [piece_B, l2Put_eq acc _ (by omega) (fun x hx => by have := h5 x hx; omega)]
  refine Ev.some_bind ?_
  have h6 := putL_length_le acc ((s.drop i).take (j - i))
  have := ih (j + 1) (putL acc ((s.drop i).take (j - i))) (by omega) (by omega) (by rw [← h3]; rfl) (by omega) (fun x hx => by
   rcases (mem_putL _ _ _).1 hx with rfl | hx
   ·
    simp; omega
   exact h5 x hx)
  simpa only [wrap64_succ j (by omega)] using this
theorem spec_rows (s : Txt) (hs : s.length ≤ 16) (all : List Txt) : ∀ d i acc, i + d = s.length → (rowsL s i d).foldl putL acc = all → acc.length + d * s.length ≤ 4000 → (∀ x ∈ acc, x.length ≤ 16) → Ev (fun k => sF65.l0 k (B s) (acc.map B) (i : Int)) (all.map B) := by
 intro d
 induction d with
 | zero =>
  intro i acc h1 h2 h3 h4
  simp only [rowsL, List.foldl_nil] at h2
  subst h2
  exact Ev.step (fun k => sF65.l0.eq_2 ..) (Ev.ifF (by simp; omega) (Ev.now _))
 | succ d ih =>
  intro i acc h1 h2 h3 h4
  rw [Nat.succ_mul] at h3
  refine Ev.step (fun k => sF65.l0.eq_2 ..) (Ev.ifT (by simp; omega) ?_)
  have h5 : (rowsL s (i + 1) d).foldl putL ((colsL s i (i + 1) (s.length - i)).foldl putL acc) = all := by rw [← h2, rowsL, List.foldl_append]
  have h6 := foldl_putL_length (colsL s i (i + 1) (s.length - i)) acc
  rw [colsL_length] at h6
  have hr := ih (i + 1) _ (by omega) h5 (by omega) (fun x hx => by
   rcases (foldl_putL_mem _ _ _).1 hx with hx | hx
   ·
    have := (mem_colsL s i _ _ x hx).1; omega
   exact h4 x hx)
  have := spec_cols s hs i (by omega) _ _ hr (s.length - i) (i + 1) acc (by omega) (by omega) rfl (by omega) h4
  simpa only [wrap64_succ i (by omega)] using this
theorem l8Parts_ev (s : Txt) (hs : s.length ≤ 16) : Ev (fun k => sF65.f k (B s)) ((partsL s).map B) := by
 have h2 : s.length * s.length ≤ 16 * 16 := Nat.mul_le_mul hs hs
 have := spec_rows s hs (partsL s) s.length 0 [] (by omega) rfl (by simp; omega) (by simp)
 simpa [sF65.f] using this
end Go.Proofs.YtblcdgnihmcdpaaGreatDoor.L
namespace Go.Proofs.YtblcdgnihmcdpaaGreatDoor.M
def hasPre (s p : List UInt8) : Bool := s.take p.length == p
end Go.Proofs.YtblcdgnihmcdpaaGreatDoor.M
namespace Go.Proofs.YtblcdgnihmcdpaaGreatDoor.L
open Go.RowKit Go.Proofs.YtblcdgnihmcdpaaGreatDoor.P Go.Proofs.YtblcdgnihmcdpaaGreatDoor.M Go.Proofs.YtblcdgnihmcdpaaGreatDoorW.PrintWords Go.Proofs.YtblcdgnihmcdpaaGreatDoorW.PrintLast Go.Proofs.YtblcdgnihmcdpaaGreatDoorW.PrintMore
theorem HasPrefix_eq (s p : List UInt8) (hs : s.length ≤ 4611686018427387900) (hp : p.length ≤ 4611686018427387900) : xF67.f (B s) (B p) = some (hasPre s p) := by
 unfold xF67.f xF68.f hasPre
 by_cases h : p.length ≤ s.length
 ·
  rw [if_pos (by simp; omega), if_pos (by omega), if_pos (by simp; omega)]; simp
 rw [if_neg (by simp; omega)]
 have : (s.take p.length == p) = false := by
  simp only [beq_eq_false_iff_ne]
  intro e
  have := congrArg List.length e
  simp at this; omega
 simp [this]
def occFrom (s p : List UInt8) : Nat → Nat → List Int
 | _, 0 => []
 | n, d + 1 => (if hasPre (s.drop n) p = true then [(n : Int)] else []) ++ occFrom s p (n + 1) d
def occM (s p : List UInt8) : List Int := occFrom s p 0 (s.length + 1)
theorem occFrom_length (s p : List UInt8) : ∀ d n, (occFrom s p n d).length ≤ d := by
 intro d
 induction d with
 | zero => intro n; simp [occFrom]
 | succ d ih => intro n; have := ih (n + 1); simp only [occFrom, List.length_append]; split <;> simp <;> omega
theorem occM_length (s p : List UInt8) : (occM s p).length ≤ s.length + 1 := occFrom_length s p _ _
theorem hasPre_short {s p : List UInt8} (h : s.length < p.length) : hasPre s p = false := by
 simp only [hasPre, beq_eq_false_iff_ne]
 intro e
 have := congrArg List.length e
 simp at this; omega
theorem occFrom_none (s p : List UInt8) : ∀ d n, n + d = s.length + 1 → s.length < n + p.length → occFrom s p n d = [] := by
 intro d
 induction d with
 | zero => intro n _ _; rfl
 | succ d ih => intro n hd h; rw [occFrom, hasPre_short (by simp; omega), ih (n + 1) (by omega) (by omega)]; rfl
theorem occurs_loop (s p : List UInt8) (hs : s.length ≤ 1048576) (hp : p.length ≤ 1048576) : ∀ (d n : Nat) (acc : List Int), n + d = s.length + 1 → acc.length ≤ n → Ev (fun k => iF23.l0 k (B s) (B p) acc ((s.length : Int) + 1) (n : Int)) (acc ++ occFrom s p n d) := by
 intro d
 induction d with
 | zero =>
  intro n acc h _
  refine Ev.step (fun k => iF23.l0.eq_2 ..) (Ev.ifF (by omega) ?_)
  simpa [occFrom] using Ev.now acc
 | succ d ih =>
  intro n acc h ha
  refine Ev.step (fun k => iF23.l0.eq_2 ..) (Ev.ifT (by omega) (Ev.ifT (by omega) (Ev.ifT (by simp; omega) ?_)))
  have he : (B s).extract (n : Int).toNat (B s).size = B (s.drop n) := by
   simp only [Int.toNat_natCast, extract_B, size_B]
   rw [List.take_of_length_le (by simp)]
  simp only [he, HasPrefix_eq (s.drop n) p (by simp; omega) (by omega)]
  refine Ev.some_bind ?_
  rw [occFrom]
  by_cases hh : hasPre (s.drop n) p = true
  ·
   refine Ev.ifT hh (Ev.ifT (by omega) ?_)
   rw [if_pos hh, ← List.append_assoc]
   simpa only [wrap64_succ n (by omega)] using ih (n + 1) (acc ++ [(n : Int)]) (by omega) (by simp; omega)
  refine Ev.ifF hh ?_
  rw [if_neg hh, List.nil_append]
  simpa only [wrap64_succ n (by omega)] using ih (n + 1) acc (by omega) (by omega)
theorem occurs_ev (s p : List UInt8) (hs : s.length ≤ 1048576) (hp : p.length ≤ 1048576) : Ev (fun k => iF23.f k (B s) (B p)) (occM s p) := by
 have := occurs_loop s p hs hp (s.length + 1) 0 [] (by omega) (by simp)
 unfold iF23.f
 rw [show wrap64 (((B s).size : Int) + 1) = (s.length : Int) + 1 from by rw [wrap64_id (by simp; omega) (by simp; omega)]; simp]
 simpa [occM] using this
theorem l8At_loop (s p : List UInt8) (hs : s.length ≤ 1048576) (hp : p.length ≤ 1048576) : ∀ (d n : Nat) (acc : List Int), n + d = s.length + 1 → acc.length ≤ n → Ev (fun k => sF62.l0 k (B s) (B p) acc (n : Int)) (acc ++ occFrom s p n d) := by
 intro d
 induction d with
 | zero =>
  intro n acc h ha
  have hw : wrap64 ((n : Int) + ((B p).size : Int)) = (n : Int) + (p.length : Int) := by rw [wrap64_id (by simp; omega) (by simp; omega)]; simp
  refine Ev.step (fun k => sF62.l0.eq_2 ..) ?_
  simp only [hw]
  refine Ev.ifF (by simp; omega) ?_
  simpa [occFrom] using Ev.now acc
 | succ d ih =>
  intro n acc h ha
  have hw : wrap64 ((n : Int) + ((B p).size : Int)) = (n : Int) + (p.length : Int) := by rw [wrap64_id (by simp; omega) (by simp; omega)]; simp
  refine Ev.step (fun k => sF62.l0.eq_2 ..) ?_
  simp only [hw]
  by_cases hlen : n + p.length ≤ s.length
  ·
   refine Ev.ifT (by simp; omega) (Ev.ifT (by omega) (Ev.ifT (by omega) ?_))
   have he : ((B s).extract (n : Int).toNat ((n : Int) + (p.length : Int)).toNat).toList = (s.drop n).take p.length := by
    rw [show ((n : Int) + (p.length : Int)).toNat = n + p.length from by omega]
    simp
   simp only [he, toList_B]
   rw [occFrom]
   by_cases hh : (s.drop n).take p.length = p
   ·
    have hh2 : hasPre (s.drop n) p = true := by simp [hasPre, hh]
    refine Ev.ifT hh (Ev.ifT (by omega) ?_)
    rw [if_pos hh2, ← List.append_assoc]
    simpa only [wrap64_succ n (by omega)] using ih (n + 1) (acc ++ [(n : Int)]) (by omega) (by simp; omega)
   have hh2 : ¬ hasPre (s.drop n) p = true := by simp [hasPre, hh]
   refine Ev.ifF hh ?_
   rw [if_neg hh2, List.nil_append]
   simpa only [wrap64_succ n (by omega)] using ih (n + 1) acc (by omega) (by omega)
  refine Ev.ifF (by simp; omega) ?_
  rw [occFrom_none s p _ n (by omega) (by omega)]
  simpa using Ev.now acc
theorem l8At_ev (s p : List UInt8) (hs : s.length ≤ 1048576) (hp : p.length ≤ 1048576) : Ev (fun k => sF62.f k (B s) (B p)) (occM s p) := by
 simpa [occM, sF62.f] using l8At_loop s p hs hp (s.length + 1) 0 [] (by omega) (by simp)
theorem hasPre_iff (l p : Txt) : hasPre l p = true ↔ l.take p.length = p := by simp [hasPre]
theorem mem_occFrom (s p : Txt) : ∀ d n z, z ∈ occFrom s p n d ↔ ∃ i : Nat, n ≤ i ∧ i < n + d ∧ hasPre (s.drop i) p = true ∧ z = (i : Int)
 | 0, n, z => by
  constructor
  ·
   intro h; simp [occFrom] at h
  rintro ⟨i, h1, h2, _⟩; omega
 | d + 1, n, z => by
  rw [occFrom, List.mem_append, mem_occFrom s p d (n + 1) z]
  constructor
  ·
   rintro (h | ⟨i, h1, h2, h3, h4⟩)
   ·
    by_cases hh : hasPre (s.drop n) p = true
    ·
     rw [if_pos hh] at h
     exact ⟨n, Nat.le_refl _, by omega, hh, List.mem_singleton.1 h⟩
    rw [if_neg hh] at h; simp at h
   exact ⟨i, by omega, by omega, h3, h4⟩
  rintro ⟨i, h1, h2, h3, h4⟩
  by_cases hi : i = n
  ·
   subst hi; left; rw [if_pos h3]; exact List.mem_singleton.2 h4
  right; exact ⟨i, by omega, by omega, h3, h4⟩
theorem mem_occM (s p : Txt) (z : Int) : z ∈ occM s p ↔ ∃ i : Nat, i ≤ s.length ∧ hasPre (s.drop i) p = true ∧ z = (i : Int) := by
 unfold occM
 rw [mem_occFrom]
 constructor
 ·
  rintro ⟨i, _, h2, h3, h4⟩; exact ⟨i, by omega, h3, h4⟩
 rintro ⟨i, h2, h3, h4⟩; exact ⟨i, by omega, by omega, h3, h4⟩
theorem mem_colsL_iff (s : Txt) (i : Nat) : ∀ d j x, x ∈ colsL s i j d ↔ ∃ m, j ≤ m ∧ m < j + d ∧ x = (s.drop i).take (m - i)
 | 0, j, x => by
  constructor
  ·
   intro h; simp [colsL] at h
  rintro ⟨m, h1, h2, _⟩; omega
 | d + 1, j, x => by
  rw [colsL, List.mem_cons, mem_colsL_iff s i d (j + 1) x]
  constructor
  ·
   rintro (h | ⟨m, h1, h2, h3⟩)
   ·
    exact ⟨j, Nat.le_refl _, by omega, h⟩
   exact ⟨m, by omega, by omega, h3⟩
  rintro ⟨m, h1, h2, h3⟩
  by_cases hm : m = j
  ·
   subst hm; exact .inl h3
  exact .inr ⟨m, by omega, by omega, h3⟩
theorem mem_rowsL_iff (s : Txt) : ∀ d i x, x ∈ rowsL s i d ↔ ∃ a m, i ≤ a ∧ a < i + d ∧ a + 1 ≤ m ∧ m < a + 1 + (s.length - a) ∧ x = (s.drop a).take (m - a)
 | 0, i, x => by
  constructor
  ·
   intro h; simp [rowsL] at h
  rintro ⟨a, m, h1, h2, _⟩; omega
 | d + 1, i, x => by
  rw [rowsL, List.mem_append, mem_rowsL_iff s d (i + 1) x, mem_colsL_iff]
  constructor
  ·
   rintro (⟨m, h1, h2, h3⟩ | ⟨a, m, h1, h2, h3⟩)
   ·
    exact ⟨i, m, Nat.le_refl _, by omega, h1, h2, h3⟩
   exact ⟨a, m, by omega, by omega, h3⟩
  rintro ⟨a, m, h1, h2, h3, h4, h5⟩
  by_cases ha : a = i
  ·
   subst ha; exact .inl ⟨m, h3, h4, h5⟩
  exact .inr ⟨a, m, by omega, by omega, h3, h4, h5⟩
theorem mem_parts_iff (s x : Txt) : x ∈ partsL s ↔ x ≠ [] ∧ ∃ i, hasPre (s.drop i) x = true := by
 unfold partsL rawL
 rw [mem_setL, mem_rowsL_iff]
 constructor
 ·
  rintro ⟨a, m, h1, h2, h3, h4, rfl⟩
  refine ⟨fun e => ?_, a, ?_⟩
  ·
   have := congrArg List.length e
   simp at this; omega
  rw [hasPre_iff, List.length_take, List.length_drop, Nat.min_eq_left (by omega)]
 rintro ⟨h1, i, h2⟩
 rw [hasPre_iff] at h2
 have hl : 0 < x.length := List.length_pos_iff.2 h1
 have h3 := congrArg List.length h2
 rw [List.length_take, List.length_drop] at h3
 exact ⟨i, i + x.length, by omega, by omega, by omega, by omega, by rw [show i + x.length - i = x.length from by omega]; exact h2.symm⟩
theorem parts_occ {s x : Txt} (h : x ∈ partsL s) : 0 < (occM s x).length := by
 obtain ⟨h1, i, h2⟩ := (mem_parts_iff s x).1 h
 have hl : 0 < x.length := List.length_pos_iff.2 h1
 have h3 := congrArg List.length ((hasPre_iff _ _).1 h2)
 rw [List.length_take, List.length_drop] at h3
 exact List.length_pos_of_mem ((mem_occM s x (i : Int)).2 ⟨i, by omega, h2, rfl⟩)
theorem part_text {s x : Txt} (h : text8 s = true) (hx : x ∈ partsL s) : text8 x = true := by
 unfold text8 at h ⊢
 rw [Bool.and_eq_true, decide_eq_true_eq] at h ⊢
 obtain ⟨h1, i, h2⟩ := (mem_parts_iff s x).1 hx
 refine ⟨List.all_eq_true.2 fun c hc => List.all_eq_true.1 h.1 c ?_, Nat.le_trans (mem_partsL hx).1 h.2⟩
 rw [← (hasPre_iff _ _).1 h2] at hc
 exact List.mem_of_mem_drop (List.mem_of_mem_take hc)
theorem nodup_sub_len {α : Type} [DecidableEq α] : ∀ (l m : List α), l.Nodup → (∀ x ∈ l, x ∈ m) → l.length ≤ m.length
 | [], _, _, _ => Nat.zero_le _
 | x :: l, m, hn, h => by
  rw [List.nodup_cons] at hn
  have hx : x ∈ m := h x (by simp)
  have h1 := nodup_sub_len l (m.erase x) hn.2 (fun y hy => (List.mem_erase_of_ne (fun e => hn.1 (by rw [← e]; exact hy))).2 (h y (by simp [hy])))
  rw [List.length_erase_of_mem hx] at h1
  have h2 : 0 < m.length := List.length_pos_of_mem hx
  simp; omega
theorem asc_nodup {l : List Txt} (h : Asc l) : l.Nodup := by
 unfold List.Nodup
 exact List.Pairwise.imp (fun {a b} (hab : a < b) (e : a = b) => txt_irrefl b (by rw [e] at hab; exact hab)) h
theorem low8 (x : Int) : 0 ≤ Go.bits .and .u64 x 255 ∧ Go.bits .and .u64 x 255 ≤ 255 := by
 have h : ((BitVec.ofInt 64 x) &&& (BitVec.ofInt 64 255)).toNat ≤ 255 := by
  rw [BitVec.toNat_and]; exact Nat.le_trans Nat.and_le_right (by decide)
 have e : Go.bits .and .u64 x 255 = IntKind.u64.wrap ((((BitVec.ofInt 64 x) &&& (BitVec.ofInt 64 255)).toNat : Nat) : Int) := rfl
 rw [e]
 generalize ((BitVec.ofInt 64 x) &&& (BitVec.ofInt 64 255)).toNat = n at h
 have e2 : IntKind.u64.wrap (n : Int) = (n : Int) % 18446744073709551616 := rfl
 rw [e2]; omega
theorem low8w (x : Int) : 0 ≤ wrap64 (Go.bits .and .u64 x 255) ∧ wrap64 (Go.bits .and .u64 x 255) ≤ 255 := by
 have := low8 x
 rw [wrap64_id (by omega) (by omega)]; exact this
def By (l : List Int) : Prop := ∀ x ∈ l, 0 ≤ x ∧ x ≤ 255
theorem by_of {l : List Int} (h : ∀ x ∈ l, (Lit.int .u8 x).wf = true) : By l := fun x hx => by
 have := h x hx
 simp [Lit.wf] at this
 have m0 : IntKind.u8.min = 0 := by decide
 have m1 : IntKind.u8.max = 255 := by decide
 omega
theorem rd_by {l : List Int} (h : By l) (i : Int) : 0 ≤ rd l i ∧ rd l i ≤ 255 := by
 unfold rd
 by_cases hi : i.toNat < l.length
 ·
  rw [getD_lt 0 hi]; exact h _ (List.getElem_mem _)
 rw [List.getD_eq_getElem?_getD, List.getElem?_eq_none (by omega)]; simp
theorem next_ev {l : List Int} (h : By l) (a s : Int) (h0 : 0 ≤ a) (h1 : a ≤ 1000000) : ∃ b s', sF47.f l a s = some (b, a + 1, s') ∧ 0 ≤ b ∧ b ≤ 255 := by
 have hw : wrap64 (a + 1) = a + 1 := wrap64_id (by omega) (by omega)
 have hr := rd_by h a
 have hr2 : wrap64 (rd l a) = rd l a := wrap64_id (by omega) (by omega)
 unfold sF47.f
 rw [hw, hr2]
 by_cases c1 : a < (l.length : Int)
 ·
  rw [if_pos c1, if_pos h0]
  by_cases c2 : a + 1 ≤ (l.length : Int)
  ·
   rw [if_pos c2]; exact ⟨_, _, rfl, hr⟩
  rw [if_neg c2]; exact ⟨_, _, rfl, low8w _⟩
 rw [if_neg c1]
 by_cases c2 : a + 1 ≤ (l.length : Int)
 ·
  rw [if_pos c2]; exact ⟨_, _, rfl, by omega, by omega⟩
 rw [if_neg c2]; exact ⟨_, _, rfl, low8w _⟩
theorem pick_ev {l : List Int} (h : By l) (a s n : Int) (h0 : 0 ≤ a) (h1 : a ≤ 100000) (hn : 1 ≤ n) : ∃ r a' s', sF50.f l a s n = some (r, a', s') ∧ 0 ≤ r ∧ r < n ∧ a ≤ a' ∧ a' ≤ a + 2 := by
 unfold sF50.f
 by_cases c1 : n ≤ 1
 ·
  rw [if_pos c1]; exact ⟨_, _, _, rfl, by omega, by omega, by omega, by omega⟩
 rw [if_neg c1]
 obtain ⟨b, s1, e1, b0, b1⟩ := next_ev h a s h0 (by omega)
 rw [e1, Option.bind_some]
 by_cases c2 : n > 200
 ·
  rw [if_pos c2]
  obtain ⟨c, s2, e2, d0, d1⟩ := next_ev h (a + 1) s1 (by omega) (by omega)
  rw [e2, Option.bind_some, if_neg (by omega)]
  have hw : wrap64 (wrap64 (b * 256) + c) = b * 256 + c := by
   rw [wrap64_id (x := b * 256) (by omega) (by omega), wrap64_id (by omega) (by omega)]
  refine ⟨_, a + 1 + 1, s2, rfl, ?_, ?_, by omega, by omega⟩
  ·
   rw [hw]; exact Int.tmod_nonneg _ (by omega)
  exact Int.tmod_lt_of_pos _ (by omega)
 rw [if_neg c2, if_neg (by omega)]
 exact ⟨_, a + 1, s1, rfl, Int.tmod_nonneg _ (by omega), Int.tmod_lt_of_pos _ (by omega), by omega, by omega⟩
theorem one_ev {l : List Int} (h : By l) (a s n : Int) (h0 : 0 ≤ a) (h1 : a ≤ 100000) (hn : 1 ≤ n) : ∃ r a' s', sF49.f l a s n = some (r, a', s') ∧ a ≤ a' ∧ a' ≤ a + 2 := by
 obtain ⟨r, a', s', e, _, _, h2, h3⟩ := pick_ev h a s n h0 h1 hn
 unfold sF49.f
 rw [e]
 exact ⟨_, a', s', rfl, h2, h3⟩
theorem among_ev {l : List Int} (h : By l) (a s : Int) (m : List Int) (h0 : 0 ≤ a) (h1 : a ≤ 100000) (hm : 0 < m.length) : ∃ r a' s', sF46.f l a s m = some (r, a', s') ∧ r ∈ m ∧ a ≤ a' ∧ a' ≤ a + 2 := by
 obtain ⟨r, a', s', e, r0, r1, h2, h3⟩ := pick_ev h a s (m.length : Int) h0 h1 (by omega)
 unfold sF46.f
 rw [e, Option.bind_some, if_pos r0, if_pos r1]
 refine ⟨_, a', s', rfl, ?_, h2, h3⟩
 unfold rd
 rw [getD_lt 0 (show r.toNat < m.length by omega)]
 exact List.getElem_mem _
theorem of_ev {l : List Int} (h : By l) (a s : Int) (m : List ByteArray) (h0 : 0 ≤ a) (h1 : a ≤ 100000) (hm : 0 < m.length) : ∃ r a' s', sF48.f l a s m = some (r, a', s') ∧ r ∈ m ∧ a ≤ a' ∧ a' ≤ a + 2 := by
 obtain ⟨r, a', s', e, r0, r1, h2, h3⟩ := pick_ev h a s (m.length : Int) h0 h1 (by omega)
 unfold sF48.f
 rw [e, Option.bind_some, if_pos r0, if_pos r1]
 refine ⟨_, a', s', rfl, ?_, h2, h3⟩
 unfold rdOf
 rw [getD_lt _ (show r.toNat < m.length by omega)]
 exact List.getElem_mem _
theorem text_j2 {l : List Int} (h : By l) (x : ByteArray) (hx : x.size ≤ 80) (a s : Int) (h0 : 0 ≤ a) (h1 : a ≤ 10000) : ∃ t a' s', Ev (fun k => sF51.j2 k x l a s) (t, a', s') ∧ t.size ≤ 100 ∧ a ≤ a' ∧ a' ≤ a + 4 := by
 obtain ⟨b, a1, s1, e, h2, h3⟩ := one_ev h a s 40 h0 (by omega) (by omega)
 cases b with
 | false =>
  refine ⟨x, a1, s1, Ev.step (fun k => sF51.j2.eq_2 ..) ?_, by omega, by omega, by omega⟩
  rw [e]
  exact Ev.some_bind (Ev.ifF (by simp) (Ev.now _))
 | true =>
  obtain ⟨r, a2, s2, e2, hm, h4, h5⟩ := of_ev h a1 s1 [(⟨#[65]⟩ : ByteArray), (⟨#[32]⟩ : ByteArray), (⟨#[122, 122, 122, 122, 122, 122, 122, 122, 122, 122, 122, 122, 122, 122, 122, 122, 122]⟩ : ByteArray)] (by omega) (by omega) (by simp)
  have hr : r.size ≤ 17 := by
   simp only [List.mem_cons, List.not_mem_nil, or_false] at hm
   rcases hm with rfl | rfl | rfl <;> decide
  refine ⟨x ++ r, a2, s2, Ev.step (fun k => sF51.j2.eq_2 ..) ?_, by rw [ByteArray.size_append]; omega, by omega, by omega⟩
  rw [e]
  refine Ev.some_bind (Ev.ifT rfl ?_)
  rw [e2]
  exact Ev.some_bind (Ev.ifT (by dsimp only; omega) (Ev.now _))
theorem text_j1 {l : List Int} (h : By l) (x : ByteArray) (hx : x.size ≤ 40) (b : Bool) (a s : Int) (h0 : 0 ≤ a) (h1 : a ≤ 10000) : ∃ t a' s', Ev (fun k => sF51.j1 k x b l a s) (t, a', s') ∧ t.size ≤ 100 ∧ a ≤ a' ∧ a' ≤ a + 4 := by
 cases b with
 | false =>
  obtain ⟨t, a', s', e, h2⟩ := text_j2 h x (by omega) a s h0 h1
  exact ⟨t, a', s', Ev.step (fun k => sF51.j1.eq_2 ..) (Ev.ifF (by simp) e), h2⟩
 | true =>
  obtain ⟨t, a', s', e, h2⟩ := text_j2 h (x ++ x) (by rw [ByteArray.size_append]; omega) a s h0 h1
  exact ⟨t, a', s', Ev.step (fun k => sF51.j1.eq_2 ..) (Ev.ifT rfl (Ev.ifT (by omega) e)), h2⟩
theorem text_loop {l : List Int} (h : By l) (m : Int) (m1 : 1 ≤ m) (m4 : m ≤ 4) : ∀ (d : Nat) (x : ByteArray) (a s : Int), x.size + d ≤ 40 → 0 ≤ a → a + 2 * d ≤ 9000 → ∃ t a' s', Ev (fun k => sF51.l0 k x m (d : Int) l a s) (t, a', s') ∧ t.size ≤ 100 ∧ a ≤ a' ∧ a' ≤ a + 2 * d + 6
 | 0, x, a, s, hx, h0, h1 => by
  obtain ⟨b, a1, s1, e, h2, h3⟩ := one_ev h a s 6 h0 (by omega) (by omega)
  obtain ⟨t, a', s', e2, h4, h5, h6⟩ := text_j1 h x (by omega) (b && decide ((x.size : Int) ≤ 8)) a1 s1 (by omega) (by omega)
  refine ⟨t, a', s', Ev.step (fun k => sF51.l0.eq_2 ..) (Ev.ifF (by omega) ?_), h4, by omega, by omega⟩
  rw [e]
  refine Ev.some_bind ?_
  cases b with
  | false => exact Ev.ifF (by simp) (by simpa using e2)
  | true => exact Ev.ifT rfl (by simpa using e2)
 | d + 1, x, a, s, hx, h0, h1 => by
  obtain ⟨r, a1, s1, e, r0, r1, h2, h3⟩ := pick_ev h a s m h0 (by omega) m1
  have hs : ((⟨#[97, 98, 99, 100]⟩ : ByteArray).extract r.toNat (r + 1).toNat).size = 1 := by
   rw [ByteArray.size_extract]
   have : (⟨#[97, 98, 99, 100]⟩ : ByteArray).size = 4 := rfl
   rw [this]; omega
  obtain ⟨t, a', s', e2, h4, h5, h6⟩ := text_loop h m m1 m4 d (x ++ (⟨#[97, 98, 99, 100]⟩ : ByteArray).extract r.toNat (r + 1).toNat) a1 s1 (by rw [ByteArray.size_append, hs]; omega) (by omega) (by omega)
  refine ⟨t, a', s', Ev.step (fun k => sF51.l0.eq_2 ..) (Ev.ifT (by omega) ?_), h4, by omega, by omega⟩
  rw [e]
  refine Ev.some_bind ?_
  simp only [wrap64_id (x := r + 1) (by omega) (by omega), wrap64_id (x := ((d + 1 : Nat) : Int) - 1) (by omega) (by omega)]
  refine Ev.ifT r0 (Ev.ifT (by omega) (Ev.ifT (by omega) (Ev.ifT (by rw [hs]; omega) ?_)))
  rw [show ((d + 1 : Nat) : Int) - 1 = (d : Int) from by omega]
  exact e2
theorem text_ev {l : List Int} (h : By l) (a s : Int) (h0 : 0 ≤ a) (h1 : a ≤ 1000) : ∃ (t : Txt) (a' s' : Int), Ev (fun k => sF51.f k l a s) (B t, a', s') ∧ t.length ≤ 100 ∧ 0 ≤ a' ∧ a' ≤ a + 100 := by
 obtain ⟨m, a1, s1, e1, hm, g1, g2⟩ := among_ev h a s [2, 3, 1, 2, 4] h0 (by omega) (by simp)
 obtain ⟨n, a2, s2, e2, hn, g3, g4⟩ := among_ev h a1 s1 [6, 8, 4, 3, 12, 1, 0, 16, 2] (by omega) (by omega) (by simp)
 simp only [List.mem_cons, List.not_mem_nil, or_false] at hm hn
 obtain ⟨d, rfl⟩ : ∃ d : Nat, n = (d : Int) := ⟨n.toNat, by omega⟩
 obtain ⟨t, a', s', e3, h4, h5, h6⟩ := text_loop h m (by omega) (by omega) d (⟨#[]⟩ : ByteArray) a2 s2 (by have : (⟨#[]⟩ : ByteArray).size = 0 := rfl; omega) (by omega) (by omega)
 obtain ⟨t, rfl⟩ := exB t
 rw [size_B] at h4
 refine ⟨t, a', s', ?_, h4, by omega, by omega⟩
 unfold sF51.f
 rw [e1]
 refine Ev.some_bind ?_
 dsimp only
 rw [e2]
 exact Ev.some_bind e3
theorem suffs_length (s : Txt) : (suffs s).length = s.length := by simp [suffs]
theorem suffs_get (s : Txt) (n : Nat) (h : n < s.length) : (suffs s).getD n [] = s.drop n := by
 rw [getD_lt [] (by rw [suffs_length]; exact h)]; simp [suffs]
theorem l8Ends_second (s : Txt) (hs : s.length ≤ 16) (all : List Txt) (ha : all.length ≤ 1000) (hx : ∀ x ∈ all, x.length ≤ 16) : ∀ d n (acc : List Int), n + d = all.length → acc.length ≤ n → Ev (fun k => sF64.l1 k (B s) (all.map B) acc (n : Int)) (acc ++ (all.drop n).map fun t => (s.length : Int) - (t.length : Int)) := by
 intro d
 induction d with
 | zero =>
  intro n acc h1 h2
  refine Ev.step (fun k => sF64.l1.eq_2 ..) (Ev.ifF (by simp; omega) ?_)
  rw [List.drop_of_length_le (by omega)]; simpa using Ev.now acc
 | succ d ih =>
  intro n acc h1 h2
  have h3 : n < all.length := by omega
  have h4 : (all.getD n []).length ≤ 16 := hx _ (by rw [getD_lt [] h3]; exact List.getElem_mem _)
  refine Ev.step (fun k => sF64.l1.eq_2 ..) ?_
  simp only [rdB all n h3, size_B]
  refine Ev.ifT (by simp; omega) (Ev.ifT (by omega) (Ev.ifT (by omega) ?_))
  rw [drop_cons_getD [] h3, List.map_cons]
  have := ih (n + 1) (acc ++ [(s.length : Int) - ((all.getD n []).length : Int)]) (by omega) (by simp; omega)
  rw [wrap64_id (x := (s.length : Int) - ((all.getD n []).length : Int)) (by omega) (by omega)]
  simpa only [wrap64_succ n (by omega), List.append_assoc, List.cons_append, List.nil_append] using this
theorem l8Ends_first (s : Txt) (hs : s.length ≤ 16) : ∀ d n (acc : List Txt), n + d = s.length → acc.length ≤ n → (∀ x ∈ acc, x.length ≤ 16) → Ev (fun k => sF64.l0 k (B s) (acc.map B) [] (n : Int)) ((((suffs s).drop n).foldl putL acc).map fun t => (s.length : Int) - (t.length : Int)) := by
 intro d
 induction d with
 | zero =>
  intro n acc h1 h2 h3
  refine Ev.step (fun k => sF64.l0.eq_2 ..) (Ev.ifF (by simp; omega) ?_)
  rw [List.drop_of_length_le (by rw [suffs_length]; omega), List.foldl_nil]
  simpa using l8Ends_second s hs acc (by omega) h3 acc.length 0 [] (by omega) (by simp)
 | succ d ih =>
  intro n acc h1 h2 h3
  have h4 : n < s.length := by omega
  refine Ev.step (fun k => sF64.l0.eq_2 ..) (Ev.ifT (by simp; omega) (Ev.ifT (by omega) (Ev.ifT (by simp; omega) ?_)))
  have he : (B s).extract (n : Int).toNat (B s).size = B (s.drop n) := by
   simp only [Int.toNat_natCast, extract_B, size_B]
   rw [List.take_of_length_le (by simp)]
  rw [he, l2Put_eq acc _ (by omega) (fun x hx => by have := h3 x hx; omega)]
  refine Ev.some_bind ?_
  rw [drop_cons_getD [] (by rw [suffs_length]; exact h4), suffs_get s n h4, List.foldl_cons]
  have h5 := putL_length_le acc (s.drop n)
  simpa only [wrap64_succ n (by omega)] using ih (n + 1) (putL acc (s.drop n)) (by omega) (by omega) (fun x hx => by
   rcases (mem_putL _ _ _).1 hx with rfl | hx
   ·
    simp; omega
   exact h3 x hx)
theorem l8Ends_ev (s : Txt) (hs : s.length ≤ 16) : Ev (fun k => sF64.f k (B s)) (endsL s) := by
 have := l8Ends_first s hs s.length 0 [] (by omega) (by simp) (by simp)
 simpa [sF64.f, endsL, setL] using this
theorem ends_ev (s : Txt) (hs : s.length ≤ 16) : iF18.f (B s) = some (endsL s) := by
 unfold iF18.f
 rw [if_pos (by simp; omega), data_B]
theorem endsL_length (s : Txt) : (endsL s).length = s.length := by rw [← ends_eq, List.length_map, endsIx_length]
theorem endsL_lt (s : Txt) (n : Nat) (h : n < s.length) : 0 ≤ (endsL s).getD n 0 ∧ (endsL s).getD n 0 < (s.length : Int) := by
 rw [← ends_eq, getD_lt 0 (by simp [endsIx_length]; exact h)]
 have hm : (endsIx s)[n]'(by rw [endsIx_length]; exact h) ∈ ixs s := by
  have : (endsIx s)[n]'(by rw [endsIx_length]; exact h) ∈ endsIx s := List.getElem_mem _
  unfold endsIx at this ⊢
  exact List.mem_mergeSort.1 this
 have := (mem_ixs s _).1 hm
 simp only [List.getElem_map]
 omega
def commonFrom (x y : Txt) : Nat → Nat → Nat
 | n, 0 => n
 | n, d + 1 => if n < x.length ∧ n < y.length ∧ ((x.getD n 0).toNat : Int) = ((y.getD n 0).toNat : Int) then commonFrom x y (n + 1) d else n
theorem commonFrom_le (x y : Txt) : ∀ d n, n ≤ x.length → commonFrom x y n d ≤ x.length
 | 0, _, h => h
 | d + 1, n, h => by
  rw [commonFrom]
  by_cases hc : n < x.length ∧ n < y.length ∧ ((x.getD n 0).toNat : Int) = ((y.getD n 0).toNat : Int)
  ·
   rw [if_pos hc]; exact commonFrom_le x y d (n + 1) (by omega)
  rw [if_neg hc]; exact h
theorem l8Common_loop (x y : Txt) (hx : x.length ≤ 1048576) (hy : y.length ≤ 1048576) : ∀ d n, n + d = x.length → Ev (fun k => sF63.l0 k (B x) (B y) (n : Int)) ((commonFrom x y n d : Nat) : Int) := by
 intro d
 induction d with
 | zero => intro n h; exact Ev.step (fun k => sF63.l0.eq_2 ..) (Ev.ifF (by simp; omega) (Ev.now _))
 | succ d ih =>
  intro n h
  refine Ev.step (fun k => sF63.l0.eq_2 ..) (Ev.ifT (by simp; omega) ?_)
  rw [commonFrom]
  by_cases h2 : n < y.length
  ·
   refine Ev.ifT (by simp; omega) (Ev.ifT (by omega) ?_)
   simp only [bt_B x n (by omega), bt_B y n h2]
   by_cases hc : ((x.getD n 0).toNat : Int) = ((y.getD n 0).toNat : Int)
   ·
    refine Ev.ifT hc ?_
    rw [if_pos ⟨by omega, h2, hc⟩]
    simpa only [wrap64_succ n (by omega)] using ih (n + 1) (by omega)
   refine Ev.ifF hc ?_
   rw [if_neg (fun h => hc h.2.2)]; exact Ev.now _
  refine Ev.ifF (by simp; omega) ?_
  rw [if_neg (fun h => h2 h.2.1)]; exact Ev.now _
theorem l8Common_ev (x y : Txt) (hx : x.length ≤ 1048576) (hy : y.length ≤ 1048576) : Ev (fun k => sF63.f k (B x) (B y)) ((commonFrom x y 0 x.length : Nat) : Int) := by
 simpa [sF63.f] using l8Common_loop x y hx hy x.length 0 (by omega)
theorem cut_B (x : Txt) (n : Nat) : (B x).extract 0 (n : Int).toNat = B (x.take n) := by simp
theorem shared_loop (x y : Txt) (hx : x.length ≤ 1048576) (hy : y.length ≤ 1048576) : ∀ d n, n + d = x.length → n ≤ y.length → Ev (fun k => iF26.l0 k (B x) (B y) (n : Int)) (B (x.take (commonFrom x y n d))) := by
 have hmn : ∀ n : Nat, ((n : Int) < mn ((B x).size : Int) ((B y).size : Int)) ↔ (n < x.length ∧ n < y.length) := fun n => by
  simp only [mn, size_B]
  split <;> omega
 intro d
 induction d with
 | zero =>
  intro n h hy2
  refine Ev.step (fun k => iF26.l0.eq_2 ..) (Ev.ifF (by rw [hmn]; omega) (Ev.ifT (by omega) (Ev.ifT (by simp; omega) ?_)))
  rw [cut_B]; exact Ev.now _
 | succ d ih =>
  intro n h hy2
  refine Ev.step (fun k => iF26.l0.eq_2 ..) ?_
  rw [commonFrom]
  by_cases h2 : n < y.length
  ·
   refine Ev.ifT (by rw [hmn]; omega) (Ev.ifT (by omega) (Ev.ifT (by simp; omega) (Ev.ifT (by simp; omega) ?_)))
   simp only [bt_B x n (by omega), bt_B y n h2]
   by_cases hc : ((x.getD n 0).toNat : Int) = ((y.getD n 0).toNat : Int)
   ·
    refine Ev.ifT hc ?_
    rw [if_pos ⟨by omega, h2, hc⟩]
    simpa only [wrap64_succ n (by omega)] using ih (n + 1) (by omega) (by omega)
   refine Ev.ifF hc (Ev.ifT (by simp; omega) ?_)
   rw [if_neg (fun h => hc h.2.2), cut_B]; exact Ev.now _
  refine Ev.ifF (by rw [hmn]; omega) (Ev.ifT (by omega) (Ev.ifT (by simp; omega) ?_))
  rw [if_neg (fun h => h2 h.2.1), cut_B]; exact Ev.now _
theorem shared2_ev (x y : Txt) (hx : x.length ≤ 1048576) (hy : y.length ≤ 1048576) : Ev (fun k => iF26.f k [B x, B y]) (B (x.take (commonFrom x y 0 x.length))) := by
 unfold iF26.f
 have hw : wrap64 ((([B x, B y] : List ByteArray).length : Int) - 1) = 1 := by rw [wrap64_id (by simp) (by simp)]; simp
 simp only [hw]
 refine Ev.ifT (by simp) (Ev.ifT (by omega) (Ev.ifT (by simp) ?_))
 exact shared_loop x y hx hy x.length 0 (by omega) (by omega)
theorem common_spec (x y : Txt) : ∀ d n, n + d = x.length → n ≤ y.length → x.take n = y.take n → commonFrom x y n d ≤ x.length ∧ commonFrom x y n d ≤ y.length ∧ x.take (commonFrom x y n d) = y.take (commonFrom x y n d) ∧ (commonFrom x y n d < x.length → commonFrom x y n d < y.length → x.getD (commonFrom x y n d) 0 ≠ y.getD (commonFrom x y n d) 0)
 | 0, n, h1, h2, h3 => by rw [commonFrom]; exact ⟨by omega, h2, h3, fun h => by omega⟩
 | d + 1, n, h1, h2, h3 => by
  rw [commonFrom]
  by_cases hc : n < x.length ∧ n < y.length ∧ ((x.getD n 0).toNat : Int) = ((y.getD n 0).toNat : Int)
  ·
   rw [if_pos hc]
   obtain ⟨c1, c2, c3⟩ := hc
   have e : x.getD n 0 = y.getD n 0 := UInt8.toNat_inj.1 (by omega)
   refine common_spec x y d (n + 1) (by omega) (by omega) ?_
   rw [List.take_add_one, List.take_add_one, h3]
   rw [getD_lt 0 c1, getD_lt 0 c2] at e
   rw [List.getElem?_eq_getElem c1, List.getElem?_eq_getElem c2, e]
  rw [if_neg hc]
  exact ⟨by omega, h2, h3, fun h4 h5 e => hc ⟨h4, h5, by rw [e]⟩⟩
def lcp (x y : Txt) : Nat := commonFrom x y 0 x.length
theorem lcp_le (x y : Txt) : lcp x y ≤ x.length := commonFrom_le x y x.length 0 (Nat.zero_le _)
theorem lcp_pre {x y p : Txt} (h1 : p <+: x) : p <+: y ↔ p.length ≤ lcp x y := by
 obtain ⟨a, b, c, d⟩ := common_spec x y x.length 0 (by omega) (by omega) (by simp)
 unfold lcp
 generalize commonFrom x y 0 x.length = k at a b c d
 have e1 := List.prefix_iff_eq_take.1 h1
 have hl := h1.length_le
 constructor
 ·
  intro h2
  have e2 := List.prefix_iff_eq_take.1 h2
  have hl2 := h2.length_le
  by_cases hk : p.length ≤ k
  ·
   exact hk
  refine absurd ?_ (d (by omega) (by omega))
  have g : ∀ z : Txt, p = z.take p.length → k < z.length → z.getD k 0 = p.getD k 0 := fun z e hz => by
   have hh : (z.take p.length).getD k 0 = z.getD k 0 := by
    rw [getD_lt 0 (by rw [List.length_take]; omega), getD_lt 0 hz, List.getElem_take]
   rw [← e] at hh
   exact hh.symm
  rw [g x e1 (by omega), g y e2 (by omega)]
 intro hk
 refine List.prefix_iff_eq_take.2 ?_
 have := congrArg (List.take p.length) c
 rw [List.take_take, List.take_take, Nat.min_eq_left hk] at this
 rw [← this]; exact e1
theorem pre_mid : ∀ {p t u v : Txt}, p <+: t → p <+: v → t < u → (u < v ∨ u = v) → p <+: u
 | [], _, u, _, _, _, _, _ => List.nil_prefix
 | c :: p, t, u, v, h1, h2, h3, h4 => by
  obtain ⟨t', rfl⟩ := h1
  obtain ⟨v', rfl⟩ := h2
  rcases h4 with h4 | rfl
  ·
   cases u with
   | nil => simp at h3
   | cons d u =>
    rw [List.cons_append] at h3 h4
    rw [List.cons_lt_cons_iff] at h3 h4
    rcases h3 with h3 | ⟨rfl, h3⟩
    ·
     rcases h4 with h4 | ⟨rfl, h4⟩
     ·
      exact absurd (UInt8.lt_trans h3 h4) (UInt8.lt_irrefl _)
     exact absurd h3 (UInt8.lt_irrefl _)
    rcases h4 with h4 | ⟨_, h4⟩
    ·
     exact absurd h4 (UInt8.lt_irrefl _)
    rw [List.cons_prefix_cons]
    exact ⟨rfl, pre_mid (List.prefix_append p t') (List.prefix_append p v') h3 (.inl h4)⟩
  exact List.prefix_append _ _
def prefs (t : Txt) (c : Nat) : List Txt := (List.range (t.length - c)).map fun i => t.take (c + i + 1)
theorem mem_prefs {t x : Txt} {c : Nat} : x ∈ prefs t c ↔ x <+: t ∧ c < x.length := by
 unfold prefs
 rw [List.mem_map]
 constructor
 ·
  rintro ⟨i, hi, rfl⟩
  rw [List.mem_range] at hi
  exact ⟨List.take_prefix _ _, by rw [List.length_take]; omega⟩
 rintro ⟨h1, h2⟩
 have := h1.length_le
 exact ⟨x.length - c - 1, List.mem_range.2 (by omega), by rw [show c + (x.length - c - 1) + 1 = x.length from by omega]; exact (List.prefix_iff_eq_take.1 h1).symm⟩
theorem nodup_prefs (t : Txt) (c : Nat) : (prefs t c).Nodup := by
 unfold prefs List.Nodup
 rw [List.pairwise_map]
 refine List.Pairwise.imp_of_mem (fun {a b} ha hb hab he => hab ?_) (List.nodup_range (n := t.length - c))
 rw [List.mem_range] at ha hb
 have := congrArg List.length he
 rw [List.length_take, List.length_take] at this
 omega
def newL : List Txt → List Txt
 | [] => []
 | [t] => prefs t 0
 | t :: u :: r => prefs t (lcp t u) ++ newL (u :: r)
def comL : List Txt → List Nat
 | [] => []
 | [_] => []
 | t :: u :: r => lcp t u :: comL (u :: r)
theorem mem_newL : ∀ (l : List Txt), Asc l → ∀ x, x ∈ newL l ↔ x ≠ [] ∧ ∃ t ∈ l, x <+: t
 | [], _, x => by simp [newL]
 | [t], _, x => by
  rw [newL, mem_prefs]
  constructor
  ·
   rintro ⟨h1, h2⟩; exact ⟨fun e => by subst e; simp at h2, t, by simp, h1⟩
  rintro ⟨h1, t', h2, h3⟩
  obtain rfl := List.mem_singleton.1 h2
  exact ⟨h3, List.length_pos_iff.2 h1⟩
 | t :: u :: r, h, x => by
  have h' : Asc (u :: r) := (List.pairwise_cons.1 h).2
  rw [newL, List.mem_append, mem_prefs, mem_newL (u :: r) h' x]
  constructor
  ·
   rintro (⟨h1, h2⟩ | ⟨h1, t', h2, h3⟩)
   ·
    exact ⟨fun e => by subst e; simp at h2, t, by simp, h1⟩
   exact ⟨h1, t', List.mem_cons_of_mem _ h2, h3⟩
  rintro ⟨h1, t', h2, h3⟩
  rcases List.mem_cons.1 h2 with rfl | h2
  ·
   by_cases hk : x.length ≤ lcp t' u
   ·
    exact .inr ⟨h1, u, by simp, (lcp_pre h3).2 hk⟩
   exact .inl ⟨h3, by omega⟩
  exact .inr ⟨h1, t', h2, h3⟩
theorem nodup_newL : ∀ (l : List Txt), Asc l → (newL l).Nodup
 | [], _ => List.Pairwise.nil
 | [t], _ => nodup_prefs t 0
 | t :: u :: r, h => by
  have h' : Asc (u :: r) := (List.pairwise_cons.1 h).2
  have ht := (List.pairwise_cons.1 h).1
  rw [newL, List.nodup_append]
  refine ⟨nodup_prefs _ _, nodup_newL (u :: r) h', fun x hx y hy e => ?_⟩
  subst e
  rw [mem_prefs] at hx
  obtain ⟨_, v, hv, hp⟩ := (mem_newL (u :: r) h' x).1 hy
  have hu : x <+: u := pre_mid hx.1 hp (ht u (by simp)) (by
   rcases List.mem_cons.1 hv with rfl | hv
   ·
    exact .inr rfl
   exact .inl ((List.pairwise_cons.1 h').1 v hv))
  have := (lcp_pre hx.1).1 hu
  omega
theorem newL_length : ∀ (l : List Txt), (newL l).length + (comL l).sum = (l.map List.length).sum
 | [] => rfl
 | [t] => by simp [newL, comL, prefs]
 | t :: u :: r => by
  have h1 := newL_length (u :: r)
  have h2 := lcp_le t u
  have h3 : (prefs t (lcp t u)).length = t.length - lcp t u := by simp [prefs]
  rw [newL, comL, List.length_append, List.sum_cons, List.map_cons, List.sum_cons, h3]
  omega
theorem drop_asc (s : Txt) : (endsIx s).map (fun x => s.drop x.1) = setL (suffs s) := by
 refine asc_ext _ _ (asc_ends s) (asc_setL _) fun y => ?_
 rw [mem_setL, List.mem_map]
 unfold suffs
 rw [List.mem_map]
 constructor
 ·
  rintro ⟨x, hx, rfl⟩
  unfold endsIx at hx
  rw [List.mem_mergeSort, mem_ixs] at hx
  exact ⟨x.1, List.mem_range.2 hx, rfl⟩
 rintro ⟨n, hn, rfl⟩
 have hn' := List.mem_range.1 hn
 refine ⟨⟨n, Nat.le_of_lt hn'⟩, ?_, rfl⟩
 unfold endsIx
 rw [List.mem_mergeSort, mem_ixs]; exact hn'
theorem sum_down : ∀ n m, ((List.range n).map fun i => n + m - i).sum * 2 = n * (n + 1 + 2 * m)
 | 0, m => by simp
 | n + 1, m => by
  have := sum_down n (m + 1)
  rw [List.range_succ, List.map_append, List.sum_append]
  simp only [List.map_cons, List.map_nil, List.sum_cons, List.sum_nil]
  rw [show (fun i => n + 1 + m - i) = (fun i => n + (m + 1) - i) from funext fun i => by omega, Nat.add_mul, this, show n + 1 + m - n = m + 1 from by omega]
  rw [show n + 1 + 2 * (m + 1) = (n + 1 + 1 + 2 * m) + 1 from by omega, Nat.mul_add n, Nat.add_mul n 1]
  omega
theorem suffix_sum (s : Txt) : ((setL (suffs s)).map List.length).sum * 2 = s.length * (s.length + 1) := by
 have hp : (setL (suffs s)).map List.length = (endsIx s).map (fun x => s.length - x.1) := by
  rw [← drop_asc, List.map_map]
  exact List.map_congr_left fun x _ => by simp
 have h1 : ((endsIx s).map (fun x => s.length - x.1)).Perm ((ixs s).map (fun x => s.length - x.1)) := (List.mergeSort_perm (ixs s) _).map _
 rw [hp, h1.sum_nat]
 have h2 : (ixs s).map (fun x => s.length - x.1) = (List.range s.length).map (fun i => s.length + 0 - i) := by
  refine List.ext_getElem (by simp [ixs_length]) fun i a b => ?_
  simp [ixs_get]
 rw [h2, sum_down]
theorem parts_eq_new (s : Txt) : (partsL s).length = (newL (setL (suffs s))).length := by
 have hm : ∀ x, x ∈ partsL s ↔ x ∈ newL (setL (suffs s)) := fun x => by
  rw [mem_parts_iff, mem_newL _ (asc_setL _)]
  constructor
  ·
   rintro ⟨h1, i, h2⟩
   have hl : 0 < x.length := List.length_pos_iff.2 h1
   have h3 := congrArg List.length ((hasPre_iff _ _).1 h2)
   rw [List.length_take, List.length_drop] at h3
   refine ⟨h1, s.drop i, (mem_setL _ _).2 (List.mem_map.2 ⟨i, List.mem_range.2 (by omega), rfl⟩), List.prefix_iff_eq_take.2 ((hasPre_iff _ _).1 h2).symm⟩
  rintro ⟨h1, t, ht, h2⟩
  obtain ⟨i, _, rfl⟩ := List.mem_map.1 ((mem_setL _ _).1 ht)
  exact ⟨h1, i, (hasPre_iff _ _).2 (List.prefix_iff_eq_take.1 h2).symm⟩
 exact Nat.le_antisymm (nodup_sub_len _ _ (asc_nodup (asc_setL _)) fun x h => (hm x).1 h) (nodup_sub_len _ _ (nodup_newL _ (asc_setL _)) fun x h => (hm x).2 h)
theorem parts_number (s : Txt) : ((partsL s).length + (comL (setL (suffs s))).sum) * 2 = s.length * (s.length + 1) := by
 rw [parts_eq_new, newL_length, suffix_sum]
def resSub (s : Txt) : List ByteArray × Bool := if text8 s = true then ((partsL s).map B, true) else ([], false)
theorem text16 {s : Txt} (h : text8 s = true) : s.length ≤ 16 := by unfold text8 at h; simp at h; exact h.2
theorem subs_impl (s : Txt) : Ev (fun k => iF14.f k (B s)) (resSub s) := by
 unfold iF14.f resSub
 rw [isText_eq]
 cases h1 : text8 s with
 | false => exact Ev.some_bind (Ev.ifF (by simp) (Ev.now _))
 | true =>
  have h16 := text16 h1
  have h256 := partsL_length s h16
  exact Ev.some_bind (Ev.ifT rfl (Ev.bind (substrings_ev s h16) (Ev.ifT (by simp; omega) (Ev.now _))))
theorem subs_spec (s : Txt) (hs : s.length ≤ 1048576) : Ev (fun k => sF45.f k (B s)) (resSub s) := by
 have e1 := l8Text_ev s (by omega)
 unfold sF45.f resSub
 cases h1 : text8 s with
 | false => rw [h1] at e1; exact Ev.bind e1 (Ev.ifF (by simp) (Ev.now _))
 | true =>
  rw [h1] at e1
  have h16 := text16 h1
  have h256 := partsL_length s h16
  have ho : sF57.f ((partsL s).map B) = some ((partsL s).map B) := by
   unfold sF57.f
   rw [Option.bind_some, if_pos (by simp; omega), List.nil_append]
  exact Ev.bind e1 (Ev.ifT rfl (Ev.bind (l8Parts_ev s h16) (by rw [ho]; exact Ev.now _)))
def resOcc (s p : List UInt8) : List Int × Bool := if text8 s = true ∧ text8 p = true ∧ p ≠ [] then (occM s p, true) else ([], false)
theorem occ_both (s p : List UInt8) (hs : s.length ≤ 1048576) (hp : p.length ≤ 1048576) : Ev (fun k => sF43.f k (B s) (B p)) (resOcc s p) ∧ Ev (fun k => iF12.f k (B s) (B p)) (resOcc s p) := by
 unfold sF43.f iF12.f resOcc
 simp only [isText_eq]
 have e1 := l8Text_ev s (by omega)
 have e2 := l8Text_ev p (by omega)
 cases h1 : text8 s with
 | false => rw [h1] at e1; rw [if_neg (by simp)]; exact ⟨Ev.bind e1 (Ev.ifF (by simp) (Ev.now _)), Ev.some_bind (Ev.ifF (by simp) (Ev.now _))⟩
 | true =>
  rw [h1] at e1
  cases h2 : text8 p with
  | false => rw [h2] at e2; rw [if_neg (by simp)]; exact ⟨Ev.bind e1 (Ev.ifT rfl (Ev.bind e2 (Ev.ifF (by simp) (Ev.now _)))), Ev.some_bind (Ev.ifT rfl (Ev.some_bind (Ev.ifF (by simp) (Ev.now _))))⟩
  | true =>
   rw [h2] at e2
   by_cases h3 : p = []
   ·
    rw [if_neg (by simp [h3])]; exact ⟨Ev.bind e1 (Ev.ifT rfl (Ev.bind e2 (Ev.ifT rfl (Ev.ifT (by simp [h3]) (Ev.now _))))), Ev.some_bind (Ev.ifT rfl (Ev.some_bind (Ev.ifT rfl (Ev.ifT (by simp [h3]) (Ev.now _)))))⟩
   rw [if_pos ⟨rfl, rfl, h3⟩]; exact ⟨Ev.bind e1 (Ev.ifT rfl (Ev.bind e2 (Ev.ifT rfl (Ev.ifF (by simpa using h3) (Ev.bind (l8At_ev s p hs hp) (Ev.now _)))))), Ev.some_bind (Ev.ifT rfl (Ev.some_bind (Ev.ifT rfl (Ev.ifF (by simpa using h3) (Ev.bind (occurs_ev s p hs hp) (Ev.now _))))))⟩
def resCount (s : Txt) : Int × Bool := if text8 s = true then (((partsL s).length : Int), true) else (0, false)
theorem count_both (s : Txt) (hs : s.length ≤ 1048576) : Ev (fun k => sF38.f k (B s)) (resCount s) ∧ Ev (fun k => iF9.f k (B s)) (resCount s) := by
 have e2 := subs_impl s
 have e1 := l8Text_ev s (by omega)
 unfold sF38.f iF9.f
 unfold resSub at e2
 unfold resCount
 cases h1 : text8 s with
 | false => rw [h1] at e1 e2; exact ⟨Ev.bind e1 (Ev.ifF (by simp) (Ev.now _)), Ev.bind e2 (Ev.now _)⟩
 | true =>
  rw [h1] at e1 e2
  have h16 := text16 h1
  exact ⟨Ev.bind e1 (Ev.ifT rfl (Ev.bind (l8Parts_ev s h16) (by simpa using Ev.now _))), Ev.bind e2 (by simpa using Ev.now _)⟩
def bump (c : List Int) (x : Txt) : List Int := c.set x.length (wrap64 (rd c (x.length : Int) + 1))
theorem bump_length (c : List Int) (x : Txt) : (bump c x).length = c.length := by simp [bump]
theorem bumps_length : ∀ (l : List Txt) (c : List Int), (l.foldl bump c).length = c.length
 | [], _ => rfl
 | x :: l, c => by rw [List.foldl_cons, bumps_length l, bump_length]
theorem spec_count (l : List Txt) (hl : l.length ≤ 1000000) (m : Nat) (hx : ∀ x ∈ l, x.length < m) : ∀ d n c, n + d = l.length → c.length = m → Ev (fun k => sF37.l0 k c (l.map B) (n : Int)) ((l.drop n).foldl bump c, true) := by
 intro d
 induction d with
 | zero =>
  intro n c h hc
  refine Ev.step (fun k => sF37.l0.eq_2 ..) (Ev.ifF (by simp; omega) ?_)
  rw [List.drop_of_length_le (by omega)]; exact Ev.now _
 | succ d ih =>
  intro n c h hc
  have h1 : n < l.length := by omega
  have h2 : (l.getD n []).length < m := hx _ (by rw [getD_lt [] h1]; exact List.getElem_mem _)
  refine Ev.step (fun k => sF37.l0.eq_2 ..) ?_
  simp only [rdB l n h1, size_B]
  refine Ev.ifT (by simp; omega) (Ev.ifT (by omega) (Ev.ifT (by omega) (Ev.ifT (by omega) ?_)))
  rw [drop_cons_getD [] h1, List.foldl_cons]
  have := ih (n + 1) (bump c (l.getD n [])) (by omega) (by rw [bump_length]; exact hc)
  simpa only [Int.toNat_natCast, wrap64_succ n (by omega), bump] using this
theorem impl_count (l : List Txt) (hl : l.length ≤ 1000000) (m : Nat) (hx : ∀ x ∈ l, x.length < m) : ∀ d n c, n + d = l.length → c.length = m → Ev (fun k => iF8.l0 k c (l.map B) ((l.map B).length : Int) (n : Int)) ((l.drop n).foldl bump c, true) := by
 intro d
 induction d with
 | zero =>
  intro n c h hc
  refine Ev.step (fun k => iF8.l0.eq_2 ..) (Ev.ifF (by simp; omega) ?_)
  rw [List.drop_of_length_le (by omega)]; exact Ev.now _
 | succ d ih =>
  intro n c h hc
  have h1 : n < l.length := by omega
  have h2 : (l.getD n []).length < m := hx _ (by rw [getD_lt [] h1]; exact List.getElem_mem _)
  refine Ev.step (fun k => iF8.l0.eq_2 ..) ?_
  simp only [rdB l n h1, size_B]
  refine Ev.ifT (by simp; omega) (Ev.ifT (by omega) (Ev.ifT (by simp; omega) (Ev.ifT (by omega) (Ev.ifT (by omega) ?_))))
  rw [drop_cons_getD [] h1, List.foldl_cons]
  have := ih (n + 1) (bump c (l.getD n [])) (by omega) (by rw [bump_length]; exact hc)
  simpa only [Int.toNat_natCast, wrap64_succ n (by omega), bump] using this
def resLen (s : Txt) : List Int × Bool := if text8 s = true then ((partsL s).foldl bump ((List.replicate (s.length + 1) (0 : Int)).set 0 1), true) else ([], false)
theorem len_both (s : Txt) (hs : s.length ≤ 1048576) : Ev (fun k => sF37.f k (B s)) (resLen s) ∧ Ev (fun k => iF8.f k (B s)) (resLen s) := by
 unfold sF37.f iF8.f resLen
 simp only [isText_eq]
 have e1 := l8Text_ev s (by omega)
 cases h1 : text8 s with
 | false => rw [h1] at e1; exact ⟨Ev.bind e1 (Ev.ifF (by simp) (Ev.now _)), Ev.some_bind (Ev.ifF (by simp) (Ev.now _))⟩
 | true =>
  rw [h1] at e1
  have h16 := text16 h1
  have h256 := partsL_length s h16
  have hw : wrap64 (((B s).size : Int) + 1) = ((s.length + 1 : Nat) : Int) := by rw [size_B, wrap64_succ _ (by omega)]
  have hc : ((List.replicate (s.length + 1) (0 : Int)).set 0 1).length = s.length + 1 := by simp
  have hx : ∀ x ∈ partsL s, x.length < s.length + 1 := fun x hx => by have := (mem_partsL hx).1; omega
  simp only [hw, Int.toNat_natCast]
  refine ⟨Ev.bind e1 (Ev.ifT rfl (Ev.ifT (by omega) (Ev.ifT (by omega) (Ev.some_bind (Ev.bind (l8Parts_ev s h16) (Ev.ifT (by simp) ?_)))))), Ev.some_bind (Ev.ifT rfl (Ev.ifT (by omega) (Ev.ifT (by omega) (Ev.some_bind (Ev.ifT (by simp) (Ev.bind (substrings_ev s h16) ?_))))))⟩
  ·
   simpa using spec_count (partsL s) (by omega) (s.length + 1) hx (partsL s).length 0 _ (by omega) hc
  simpa using impl_count (partsL s) (by omega) (s.length + 1) hx (partsL s).length 0 _ (by omega) hc
def resEnds (s : Txt) : List Int × Bool := if text8 s = true then (endsL s, true) else ([], false)
theorem ends_both (s : Txt) (hs : s.length ≤ 1048576) : Ev (fun k => sF42.f k (B s)) (resEnds s) ∧ Ev (fun k => iF10.f (B s)) (resEnds s) := by
 unfold sF42.f iF10.f resEnds
 simp only [isText_eq]
 have e1 := l8Text_ev s (by omega)
 cases h1 : text8 s with
 | false => rw [h1] at e1; exact ⟨Ev.bind e1 (Ev.ifF (by simp) (Ev.now _)), Ev.some_bind (Ev.ifF (by simp) (Ev.now _))⟩
 | true =>
  rw [h1] at e1
  have h16 := text16 h1
  refine ⟨Ev.bind e1 (Ev.ifT rfl (Ev.bind (l8Ends_ev s h16) (Ev.now _))), Ev.some_bind (Ev.ifT rfl ?_)⟩
  rw [ends_ev s h16]
  exact Ev.some_bind (Ev.now _)
def cm (s : Txt) (L : List Int) (n : Nat) : Int := ((commonFrom (s.drop (L.getD n 0).toNat) (s.drop (L.getD (n + 1) 0).toNat) 0 (s.drop (L.getD n 0).toNat).length : Nat) : Int)
def nextFrom (s : Txt) (L : List Int) : Nat → Nat → List Int
 | _, 0 => []
 | n, d + 1 => cm s L n :: nextFrom s L (n + 1) d
theorem nextFrom_length (s : Txt) (L : List Int) : ∀ d n, (nextFrom s L n d).length = d
 | 0, _ => rfl
 | d + 1, n => by simp [nextFrom, nextFrom_length s L d (n + 1)]
theorem rest_B (s : Txt) (m : Nat) : (B s).extract (m : Int).toNat (B s).size = B (s.drop m) := by
 simp only [Int.toNat_natCast, extract_B, size_B]
 rw [List.take_of_length_le (by simp)]
theorem spec_next_loop (s : Txt) (hs : s.length ≤ 16) (L : List Int) (hl : L.length ≤ 1000) (hL : ∀ n, n < L.length → 0 ≤ L.getD n 0 ∧ L.getD n 0 < (s.length : Int)) : ∀ d n acc, n + d + 1 = L.length → acc.length ≤ n → Ev (fun k => sF36.l0 k (B s) acc L (n : Int)) (acc ++ nextFrom s L n d, true) := by
 intro d
 induction d with
 | zero =>
  intro n acc h1 h2
  refine Ev.step (fun k => sF36.l0.eq_2 ..) ?_
  simp only [wrap64_succ n (by omega)]
  refine Ev.ifF (by omega) ?_
  simpa [nextFrom] using Ev.now _
 | succ d ih =>
  intro n acc h1 h2
  obtain ⟨a1, a2⟩ := hL n (by omega)
  obtain ⟨b1, b2⟩ := hL (n + 1) (by omega)
  obtain ⟨a, ha⟩ : ∃ a : Nat, L.getD n 0 = (a : Int) := ⟨(L.getD n 0).toNat, by omega⟩
  obtain ⟨b, hb⟩ : ∃ b : Nat, L.getD (n + 1) 0 = (b : Int) := ⟨(L.getD (n + 1) 0).toNat, by omega⟩
  refine Ev.step (fun k => sF36.l0.eq_2 ..) ?_
  simp only [wrap64_succ n (by omega), rd_nat, ha, hb, rest_B]
  refine Ev.ifT (by omega) (Ev.ifT (by omega) (Ev.ifT (by omega) (Ev.ifT (by omega) (Ev.ifT (by simp; omega) (Ev.ifT (by omega) (Ev.ifT (by omega) (Ev.ifT (by simp; omega) (Ev.bind (l8Common_ev (s.drop a) (s.drop b) (by simp; omega) (by simp; omega)) (Ev.ifT (by omega) ?_)))))))))
  have he : cm s L n = ((commonFrom (s.drop a) (s.drop b) 0 (s.drop a).length : Nat) : Int) := by unfold cm; rw [ha, hb]; rfl
  rw [← he, nextFrom]
  simpa only [List.append_assoc, List.cons_append, List.nil_append] using ih (n + 1) (acc ++ [cm s L n]) (by omega) (by simp; omega)
theorem impl_next_loop (s : Txt) (hs : s.length ≤ 16) (L : List Int) (hl : L.length ≤ 1000) (hL : ∀ n, n < L.length → 0 ≤ L.getD n 0 ∧ L.getD n 0 < (s.length : Int)) : ∀ d n acc, n + d + 1 = L.length → acc.length ≤ n → Ev (fun k => iF7.l0 k (B s) L acc ((n + 1 : Nat) : Int)) (acc ++ nextFrom s L n d, true) := by
 intro d
 induction d with
 | zero =>
  intro n acc h1 h2
  refine Ev.step (fun k => iF7.l0.eq_2 ..) (Ev.ifF (by omega) ?_)
  simpa [nextFrom] using Ev.now _
 | succ d ih =>
  intro n acc h1 h2
  obtain ⟨a1, a2⟩ := hL n (by omega)
  obtain ⟨b1, b2⟩ := hL (n + 1) (by omega)
  obtain ⟨a, ha⟩ : ∃ a : Nat, L.getD n 0 = (a : Int) := ⟨(L.getD n 0).toNat, by omega⟩
  obtain ⟨b, hb⟩ : ∃ b : Nat, L.getD (n + 1) 0 = (b : Int) := ⟨(L.getD (n + 1) 0).toNat, by omega⟩
  have hw : wrap64 (((n + 1 : Nat) : Int) - 1) = (n : Int) := by rw [wrap64_id (by omega) (by omega)]; omega
  refine Ev.step (fun k => iF7.l0.eq_2 ..) ?_
  simp only [hw, wrap64_succ (n + 1) (by omega), rd_nat, ha, hb, rest_B]
  refine Ev.ifT (by omega) (Ev.ifT (by omega) (Ev.ifT (by omega) (Ev.ifT (by omega) (Ev.ifT (by simp; omega) (Ev.ifT (by omega) (Ev.ifT (by omega) (Ev.ifT (by simp; omega) (Ev.bind (shared2_ev (s.drop a) (s.drop b) (by simp; omega) (by simp; omega)) (Ev.ifT (by omega) ?_)))))))))
  have hle := commonFrom_le (s.drop a) (s.drop b) (s.drop a).length 0 (by omega)
  have he : cm s L n = (((B ((s.drop a).take (commonFrom (s.drop a) (s.drop b) 0 (s.drop a).length))).size : Nat) : Int) := by
   unfold cm; rw [ha, hb, size_B, List.length_take, Nat.min_eq_left hle]; rfl
  rw [← he, nextFrom]
  simpa only [List.append_assoc, List.cons_append, List.nil_append] using ih (n + 1) (acc ++ [cm s L n]) (by omega) (by simp; omega)
def resNext (s : Txt) : List Int × Bool := if text8 s = true then (nextFrom s (endsL s) 0 (s.length - 1), true) else ([], false)
theorem next_both (s : Txt) (hs : s.length ≤ 1048576) : Ev (fun k => sF36.f k (B s)) (resNext s) ∧ Ev (fun k => iF7.f k (B s)) (resNext s) := by
 unfold sF36.f iF7.f resNext
 simp only [isText_eq]
 have e1 := l8Text_ev s (by omega)
 cases h1 : text8 s with
 | false => rw [h1] at e1; exact ⟨Ev.some_bind (Ev.bind e1 (Ev.ifF (by simp) (Ev.now _))), Ev.some_bind (Ev.ifF (by simp) (Ev.now _))⟩
 | true =>
  rw [h1] at e1
  have h16 := text16 h1
  have hl := endsL_length s
  have hL : ∀ n, n < (endsL s).length → 0 ≤ (endsL s).getD n 0 ∧ (endsL s).getD n 0 < (s.length : Int) := fun n hn => endsL_lt s n (by omega)
  refine ⟨Ev.some_bind (Ev.bind e1 (Ev.ifT rfl (Ev.bind (l8Ends_ev s h16) ?_))), Ev.some_bind (Ev.ifT rfl ?_)⟩
  ·
   by_cases h0 : s.length = 0
   ·
    rw [h0]
    refine Ev.step (fun k => sF36.l0.eq_2 ..) (Ev.ifF (by rw [show wrap64 ((0 : Int) + 1) = 1 from by rw [wrap64_id (by omega) (by omega)]; rfl]; omega) ?_)
    simpa [nextFrom] using Ev.now _
   simpa using spec_next_loop s h16 (endsL s) (by omega) hL (s.length - 1) 0 [] (by omega) (by simp)
  rw [ends_ev s h16]
  refine Ev.some_bind ?_
  by_cases h0 : s.length = 0
  ·
   rw [h0]
   refine Ev.step (fun k => iF7.l0.eq_2 ..) (Ev.ifF (by omega) ?_)
   simpa [nextFrom] using Ev.now _
  simpa using impl_next_loop s h16 (endsL s) (by omega) hL (s.length - 1) 0 [] (by omega) (by simp)
instance : DecidableEq S46 := fun a b => if h : a.f0 = b.f0 ∧ a.f1 = b.f1 ∧ a.f2 = b.f2 then isTrue (by obtain ⟨a0, a1, a2⟩ := a; obtain ⟨b0, b1, b2⟩ := b; obtain ⟨h1, h2, h3⟩ := h; simp only at h1 h2 h3; subst h1 h2 h3; rfl) else isFalse (fun e => h (by rw [e]; exact ⟨rfl, rfl, rfl⟩))
def mkN (x : Int × Int × Bool) : S46 := ⟨x.1, x.2.1, x.2.2⟩
def trN (P ws : List Txt) : List S46 := (nodesL P ws).map mkN
theorem trN_length (P ws : List Txt) : (trN P ws).length = P.length := by simp [trN, nodesL]
theorem rdN (P ws : List Txt) (i : Nat) (h : i < P.length) : rd_T46 (trN P ws) (i : Int) = mkN (ndL P ws (P.getD i [])) := by
 unfold rd_T46 trN nodesL
 rw [Int.toNat_natCast, getD_lt _ (by simpa using h), getD_lt _ h]
 simp
theorem l2Has_loop (l : List Txt) (p : Txt) (hl : l.length ≤ 4611686018427387903) : ∀ (d i : Nat), i + d = l.length → Ev (fun k => sF55.l0 k (l.map B) (B p) (i : Int)) (decide (p ∈ l.drop i)) := by
 intro d
 induction d with
 | zero =>
  intro i h
  rw [List.drop_of_length_le (by omega)]
  exact Ev.step (fun k => sF55.l0.eq_2 ..) (Ev.ifF (by simp; omega) (by simpa using Ev.now false))
 | succ d ih =>
  intro i h
  have hi : i < l.length := by omega
  refine Ev.step (fun k => sF55.l0.eq_2 ..) (Ev.ifT (by simp; omega) (Ev.ifT (by omega) ?_))
  rw [rdB l i hi, drop_cons_getD [] hi, toList_B, toList_B]
  by_cases e : l.getD i [] = p
  ·
   rw [show decide (p ∈ l.getD i [] :: l.drop (i + 1)) = true from decide_eq_true (by rw [e]; exact List.mem_cons_self)]
   exact Ev.ifT e (Ev.now _)
  rw [show decide (p ∈ l.getD i [] :: l.drop (i + 1)) = decide (p ∈ l.drop (i + 1)) from decide_eq_decide.2 ⟨fun h => (List.mem_cons.1 h).resolve_left (fun q => e q.symm), fun h => List.mem_cons_of_mem _ h⟩]
  refine Ev.ifF e ?_
  rw [wrap64_succ i (by omega)]
  exact ih (i + 1) (by omega)
theorem l2Has_ev (l : List Txt) (p : Txt) (hl : l.length ≤ 4611686018427387903) : Ev (fun k => sF55.f k (l.map B) (B p)) (decide (p ∈ l)) := by
 have := l2Has_loop l p hl l.length 0 (by omega)
 rw [List.drop_zero] at this
 exact this
theorem l2Place_loop (l : List Txt) (p : Txt) (hl : l.length ≤ 4611686018427387903) : ∀ (d i : Nat), i + d = l.length → Ev (fun k => sF58.l0 k (l.map B) (B p) (i : Int)) (if p ∈ l.drop i then ((i + placeL (l.drop i) p : Nat) : Int) else -1) := by
 intro d
 induction d with
 | zero =>
  intro i h
  rw [List.drop_of_length_le (by omega)]
  exact Ev.step (fun k => sF58.l0.eq_2 ..) (Ev.ifF (by simp; omega) (by simpa using Ev.now (-1 : Int)))
 | succ d ih =>
  intro i h
  have hi : i < l.length := by omega
  refine Ev.step (fun k => sF58.l0.eq_2 ..) (Ev.ifT (by simp; omega) (Ev.ifT (by omega) ?_))
  rw [rdB l i hi, drop_cons_getD [] hi, toList_B, toList_B]
  by_cases e : l.getD i [] = p
  ·
   rw [if_pos (show p ∈ l.getD i [] :: l.drop (i + 1) from by rw [e]; exact List.mem_cons_self), placeL, if_pos e]
   exact Ev.ifT e (Ev.now _)
  refine Ev.ifF e ?_
  rw [wrap64_succ i (by omega)]
  have h1 := ih (i + 1) (by omega)
  by_cases hm : p ∈ l.drop (i + 1)
  ·
   rw [if_pos hm] at h1
   rw [if_pos (List.mem_cons_of_mem _ hm), placeL, if_neg e]
   rwa [show i + (placeL (l.drop (i + 1)) p + 1) = i + 1 + placeL (l.drop (i + 1)) p from by omega]
  rw [if_neg hm] at h1
  rw [if_neg (fun h => hm ((List.mem_cons.1 h).resolve_left (fun q => e q.symm)))]
  exact h1
theorem l2Place_ev (l : List Txt) (p : Txt) (hl : l.length ≤ 4611686018427387903) (h : p ∈ l) : Ev (fun k => sF58.f k (l.map B) (B p)) (placeL l p : Int) := by
 have := l2Place_loop l p hl l.length 0 (by omega)
 rw [List.drop_zero, if_pos h, Nat.zero_add] at this
 exact this
def begF (w : Txt) : Nat → Nat → List Txt
 | _, 0 => []
 | n, d + 1 => w.take n :: begF w (n + 1) d
theorem begF_eq (w : Txt) : ∀ d n, begF w n d = (List.range d).map fun j => w.take (n + j)
 | 0, _ => rfl
 | d + 1, n => by
  rw [begF, begF_eq w d (n + 1), List.range_succ_eq_map, List.map_cons, List.map_map]
  congr 1
  exact List.map_congr_left fun j _ => by show w.take (n + 1 + j) = w.take (n + (j + 1)); congr 1; omega
theorem begs_begF (w : Txt) : begs w = begF w 1 w.length := by
 rw [begF_eq]
 exact List.map_congr_left fun j _ => by congr 1; omega
theorem l2Of_in (ws : List Txt) (hl : ws.length ≤ 40) (hw : ∀ w ∈ ws, w.length ≤ 12) (i : Nat) (hi : i < ws.length) (r : List S46) (acc2 : List Txt) (hr : Ev (fun k => sF56.l0 k (ws.map B) (acc2.map B) ((i + 1 : Nat) : Int)) r) :
  ∀ (d n : Nat) (acc : List Txt), 0 < n → n + d = (ws.getD i []).length + 1 → (begF (ws.getD i []) n d).foldl putL acc = acc2 → acc.length + d ≤ 1000 → (∀ x ∈ acc, x.length ≤ 12) → Ev (fun k => sF56.l1 k (ws.map B) (acc.map B) (i : Int) (n : Int)) r := by
 have hwi := hw _ (getD_mem hi)
 intro d
 induction d with
 | zero =>
  intro n acc h0 h1 h2 h3 h4
  rw [begF, List.foldl_nil] at h2
  subst h2
  refine Ev.step (fun k => sF56.l1.eq_2 ..) (Ev.ifT (by omega) (Ev.ifT (by simp; omega) (Ev.ifF (by rw [rdB ws i hi, size_B]; omega) ?_)))
  rw [wrap64_succ i (by omega)]
  exact hr
 | succ d ih =>
  intro n acc h0 h1 h2 h3 h4
  refine Ev.step (fun k => sF56.l1.eq_2 ..) (Ev.ifT (by omega) (Ev.ifT (by simp; omega) (Ev.ifT (by rw [rdB ws i hi, size_B]; omega) (Ev.ifT (by omega) ?_))))
  rw [rdB ws i hi, extract_B, List.drop_zero, Int.toNat_natCast, Nat.sub_zero, l2Put_eq acc _ (by omega) (fun x hx => by have := h4 x hx; omega)]
  refine Ev.some_bind ?_
  rw [wrap64_succ n (by omega)]
  have h6 := putL_length_le acc ((ws.getD i []).take n)
  exact ih (n + 1) (putL acc ((ws.getD i []).take n)) (by omega) (by omega) (by rw [← h2]; rfl) (by omega) (fun x hx => by
   rcases (mem_putL _ _ _).1 hx with rfl | hx
   ·
    rw [List.length_take]; omega
   exact h4 x hx)
theorem l2Of_out (ws : List Txt) (hl : ws.length ≤ 40) (hw : ∀ w ∈ ws, w.length ≤ 12) (r : List S46) (all : List Txt) (hr : Ev (fun k => sF56.l2 k (ws.map B) (all.map B) 0 []) r) :
  ∀ (d i : Nat) (acc : List Txt), i + d = ws.length → ((ws.drop i).flatMap begs).foldl putL acc = all → acc.length + 12 * d ≤ 600 → (∀ x ∈ acc, x.length ≤ 12) → Ev (fun k => sF56.l0 k (ws.map B) (acc.map B) (i : Int)) r := by
 intro d
 induction d with
 | zero =>
  intro i acc h1 h2 h3 h4
  rw [List.drop_of_length_le (by omega), List.flatMap_nil, List.foldl_nil] at h2
  subst h2
  exact Ev.step (fun k => sF56.l0.eq_2 ..) (Ev.ifF (by simp; omega) hr)
 | succ d ih =>
  intro i acc h1 h2 h3 h4
  have hi : i < ws.length := by omega
  have hwi := hw _ (getD_mem hi)
  rw [drop_cons_getD [] hi, List.flatMap_cons, List.foldl_append] at h2
  have h5 := foldl_putL_len (begs (ws.getD i [])) acc
  rw [begs_length] at h5
  have hn := ih (i + 1) _ (by omega) h2 (by omega) (fun x hx => by
   rcases (foldl_putL_mem _ _ _).1 hx with hx | hx
   ·
    exact Nat.le_trans (mem_begs.1 hx).2.length_le hwi
   exact h4 x hx)
  refine Ev.step (fun k => sF56.l0.eq_2 ..) (Ev.ifT (by simp; omega) ?_)
  exact l2Of_in ws hl hw i hi r _ hn (ws.getD i []).length 1 acc (by omega) (by omega) (by rw [← begs_begF]) (by omega) h4
theorem l2Of_nodes {ws P : List Txt} (hA : Asc P) (hC : Clo P) (hW : ∀ p ∈ P, wordL p = true) (hP : P.length ≤ 1000) (hl : ws.length ≤ 1000) : ∀ (d i : Nat) (acc : List S46), i + d = P.length → acc.length ≤ i →
  Ev (fun k => sF56.l2 k (ws.map B) (P.map B) (i : Int) acc) (acc ++ ((P.drop i).map fun p => mkN (ndL P ws p))) := by
 intro d
 induction d with
 | zero =>
  intro i acc h1 h2
  rw [List.drop_of_length_le (by omega), List.map_nil, List.append_nil]
  exact Ev.step (fun k => sF56.l2.eq_2 ..) (Ev.ifF (by simp; omega) (Ev.now _))
 | succ d ih =>
  intro i acc h1 h2
  have hi : i < P.length := by omega
  have hm := getD_mem hi
  rw [drop_cons_getD [] hi, List.map_cons]
  refine Ev.step (fun k => sF56.l2.eq_2 ..) (Ev.ifT (by simp; omega) (Ev.ifT (by omega) ?_))
  rw [rdB P i hi]
  refine Ev.bind (l2Has_ev ws (P.getD i []) (by omega)) ?_
  have hcons : ∀ x : S46, acc ++ (x :: (P.drop (i + 1)).map fun p => mkN (ndL P ws p)) = (acc ++ [x]) ++ (P.drop (i + 1)).map fun p => mkN (ndL P ws p) := fun x => by simp
  rw [hcons]
  by_cases h0 : i = 0
  ·
   have hp : P.getD i [] = [] := by rw [h0]; exact (clo_zero hA hC).2
   refine Ev.ifF (by omega) (Ev.ifT (by omega) ?_)
   have hx : mkN (ndL P ws (P.getD i [])) = ⟨-1, -1, decide (P.getD i [] ∈ ws)⟩ := by unfold mkN ndL; rw [if_pos hp, if_pos hp]
   rw [hx, wrap64_succ i (by omega)]
   exact ih (i + 1) _ (by omega) (by simp; omega)
  have hne := clo_pos hA hC hi (by omega)
  have hlen := List.length_pos_iff.2 hne
  have h12 := (wordL_iff.1 (hW _ hm)).2
  have hw1 : wrap64 (((B (P.getD i [])).size : Int) - 1) = ((P.getD i []).length - 1 : Nat) := by rw [size_B, wrap64_id (by omega) (by omega)]; omega
  rw [hw1]
  refine Ev.ifT (by omega) (Ev.ifT (by omega) (Ev.ifT (by rw [size_B]; omega) (Ev.ifT (by rw [size_B]; omega) ?_)))
  rw [extract_B, List.drop_zero, Int.toNat_natCast, Nat.sub_zero, ← List.dropLast_eq_take]
  refine Ev.bind (l2Place_ev P _ (by omega) (hC.2 _ hm hne)) (Ev.ifT (by omega) ?_)
  have hx : mkN (ndL P ws (P.getD i [])) = ⟨((bt (B (P.getD i [])) (((P.getD i []).length - 1 : Nat) : Int)) - 97) % 256, (placeL P (P.getD i []).dropLast : Int), decide (P.getD i [] ∈ ws)⟩ := by
   unfold mkN ndL
   rw [if_neg hne, if_neg hne, bt_B _ _ (by omega)]
   rfl
  rw [hx, wrap64_succ i (by omega)]
  exact ih (i + 1) _ (by omega) (by simp; omega)
theorem l2Of_ev {ws : List Txt} (h : OkW ws) : Ev (fun k => sF56.f k (ws.map B)) (trN (preL ws) ws) := by
 have h1 := h.pre
 have h2 := h.len
 have hn := l2Of_nodes (ws := ws) (asc_preL ws) (clo_preL ws) (fun p hp => preL_word h.word hp) (by omega) (by omega) (preL ws).length 0 [] (by omega) (by simp)
 rw [List.drop_zero, List.nil_append] at hn
 have e : (preL ws).map (fun p => mkN (ndL (preL ws) ws p)) = trN (preL ws) ws := by unfold trN nodesL; rw [List.map_map]; rfl
 rw [e] at hn
 exact l2Of_out ws h.len h.le _ (preL ws) hn ws.length 0 [[]] (by omega) rfl (by simp; omega) (by simp)
def IsTr (N : List S46) : Prop := ∃ ws, OkW ws ∧ N = trN (preL ws) ws
theorem IsTr.len {N : List S46} (h : IsTr N) : 1 ≤ N.length ∧ N.length ≤ 481 := by
 obtain ⟨ws, h, rfl⟩ := h
 rw [trN_length]
 exact ⟨(clo_zero (asc_preL ws) (clo_preL ws)).1, h.pre⟩
abbrev Nd := S46
theorem bytesLess_eq : ∀ (x y : Txt), Op.bytesLess x y = decide (x < y)
 | [], [] => by rw [decide_eq_false (txt_irrefl [])]; rfl
 | _ :: _, [] => by rw [decide_eq_false (List.not_lt_nil _)]; rfl
 | [], b :: y => by rw [decide_eq_true (List.nil_lt_cons b y)]; rfl
 | a :: x, b :: y => by
  rw [Op.bytesLess, bytesLess_eq x y, Bool.eq_iff_iff, decide_eq_true_eq, List.cons_lt_cons_iff]
  simp
theorem less_eq (x y : Txt) : xF5.f (B x) (B y) = some (decide (x < y)) := by
 unfold xF5.f xF6.f
 rw [toList_B, toList_B, ← bytesLess_eq]
 simp
def Srt (ws : List Txt) : Prop := ∀ j, j + 1 < ws.length → ¬ ws.getD (j + 1) [] < ws.getD j []
theorem Srt.le {ws : List Txt} (h : Srt ws) (i : Nat) : ∀ d, i + d < ws.length → ¬ ws.getD (i + d) [] < ws.getD i []
 | 0, _ => txt_irrefl _
 | d + 1, hd => fun hlt => by
  have h1 := h.le i d (by omega)
  have h2 := h (i + d) (by omega)
  exact h1 (List.lt_of_le_of_lt (List.not_lt.1 h2) hlt)
theorem srt_asc {ws : List Txt} (h : Asc ws) : Srt ws := fun j hj => txt_asymm (asc_get h hj (Nat.lt_succ_self j))
theorem half_eq (i j : Nat) (h : i + j ≤ 4611686018427387903) : wrap64 ((IntKind.u64.wrap (wrap64 ((i : Int) + (j : Int)))) / 2) = (((i + j) / 2 : Nat) : Int) := by
 have e1 : wrap64 ((i : Int) + (j : Int)) = ((i + j : Nat) : Int) := by rw [wrap64_id (by omega) (by omega)]; omega
 have e2 : IntKind.u64.wrap (((i + j : Nat) : Int)) = ((i + j : Nat) : Int) := by
  simp [IntKind.wrap, IntKind.bits, IntKind.signed]; omega
 rw [e1, e2, wrap64_id (by omega) (by omega)]
 omega
theorem search_loop (ws : List Txt) (p : Txt) (hl : ws.length ≤ 1000000000) (hs : Srt ws) : ∀ (d i j : Nat), i + d = j → j ≤ ws.length → (∀ m, m < i → ws.getD m [] < p) → (∀ m, j ≤ m → m < ws.length → ¬ ws.getD m [] < p) →
  ∃ q : Nat, q ≤ ws.length ∧ (∀ m, m < q → ws.getD m [] < p) ∧ (∀ m, q ≤ m → m < ws.length → ¬ ws.getD m [] < p) ∧ Ev (fun k => xF34.l0 k (ws.map B) (B p) (ws.length : Int) (i : Int) (j : Int)) ((q : Int), decide (p ∈ ws)) := by
 intro d
 induction d using Nat.strongRecOn with
 | _ d ih =>
  intro i j h1 h2 h3 h4
  by_cases hij : i < j
  ·
   have hh : (i + j) / 2 < ws.length := by omega
   by_cases hlt : ws.getD ((i + j) / 2) [] < p
   ·
    obtain ⟨q, q1, q2, q3, q4⟩ := ih (j - ((i + j) / 2 + 1)) (by omega) ((i + j) / 2 + 1) j (by omega) h2 (fun m hm => by
     by_cases e : m = (i + j) / 2
     ·
      rw [e]; exact hlt
     by_cases hmi : m < i
     ·
      exact h3 m hmi
     have hle := hs.le m ((i + j) / 2 - m) (by omega)
     rw [show m + ((i + j) / 2 - m) = (i + j) / 2 from by omega] at hle
     exact List.lt_of_le_of_lt (List.not_lt.1 hle) hlt) h4
    refine ⟨q, q1, q2, q3, Ev.step (fun k => xF34.l0.eq_2 ..) (Ev.ifT (by omega) ?_)⟩
    rw [half_eq i j (by omega)]
    refine Ev.ifT (by omega) (Ev.ifT (by rw [List.length_map]; omega) ?_)
    rw [rdB ws _ hh, less_eq, decide_eq_true hlt]
    refine Ev.some_bind (Ev.ifT rfl ?_)
    rw [wrap64_succ _ (by omega)]
    exact q4
   obtain ⟨q, q1, q2, q3, q4⟩ := ih ((i + j) / 2 - i) (by omega) i ((i + j) / 2) (by omega) (by omega) h3 (fun m hm hml => by
    have hle := hs.le ((i + j) / 2) (m - (i + j) / 2) (by omega)
    rw [show (i + j) / 2 + (m - (i + j) / 2) = m from by omega] at hle
    exact fun hp => hlt (List.lt_of_le_of_lt (List.not_lt.1 hle) hp))
   refine ⟨q, q1, q2, q3, Ev.step (fun k => xF34.l0.eq_2 ..) (Ev.ifT (by omega) ?_)⟩
   rw [half_eq i j (by omega)]
   refine Ev.ifT (by omega) (Ev.ifT (by rw [List.length_map]; omega) ?_)
   rw [rdB ws _ hh, less_eq, decide_eq_false hlt]
   exact Ev.some_bind (Ev.ifF Bool.false_ne_true q4)
  obtain rfl : i = j := by omega
  refine ⟨i, h2, h3, h4, Ev.step (fun k => xF34.l0.eq_2 ..) (Ev.ifF (by omega) ?_)⟩
  by_cases hn : i < ws.length
  ·
   refine Ev.ifT (by omega) (Ev.ifT (by omega) (Ev.ifT (by rw [List.length_map]; omega) ?_))
   rw [rdB ws i hn, toList_B, toList_B]
   by_cases e : ws.getD i [] = p
   ·
    rw [decide_eq_true (show p ∈ ws from e ▸ getD_mem hn)]
    exact Ev.ifT e (Ev.now _)
   have hm : ¬ p ∈ ws := fun hp => by
    obtain ⟨z1, z2⟩ := placeL_mem hp
    have hz : i ≤ placeL ws p := by
     by_cases hzi : placeL ws p < i
     ·
      have := h3 _ hzi; rw [z2] at this; exact absurd this (txt_irrefl _)
     omega
    have hle := hs.le i (placeL ws p - i) (by omega)
    rw [show i + (placeL ws p - i) = placeL ws p from by omega, z2] at hle
    exact e (txt_tri (h4 i (Nat.le_refl _) hn) hle)
   rw [decide_eq_false hm]
   refine Ev.ifF e ?_
   unfold xF35.f
   exact Ev.some_bind (Ev.ifF (by simp) (Ev.now _))
  have hm : ¬ p ∈ ws := fun hp => by
   obtain ⟨z1, z2⟩ := placeL_mem hp
   have := h3 _ (show placeL ws p < i by omega)
   rw [z2] at this
   exact txt_irrefl _ this
  rw [decide_eq_false hm]
  exact Ev.ifF (by omega) (Ev.now _)
theorem search_ev (ws : List Txt) (p : Txt) (hl : ws.length ≤ 1000000000) (hs : Srt ws) : ∃ q : Nat, q ≤ ws.length ∧ (∀ m, m < q → ws.getD m [] < p) ∧ (∀ m, q ≤ m → m < ws.length → ¬ ws.getD m [] < p) ∧ Ev (fun k => xF34.f k (ws.map B) (B p)) ((q : Int), decide (p ∈ ws)) := by
 unfold xF34.f
 have := search_loop ws p hl hs ws.length 0 ws.length (by omega) (Nat.le_refl _) (fun m hm => absurd hm (Nat.not_lt_zero _)) (fun m h1 h2 => absurd h2 (by omega))
 rw [List.length_map]
 exact this
theorem trieOf_in (ws0 xs : List Txt) (w : Txt) (hw : w.length ≤ 12) (i : Nat) (hi : i ≤ 100000) (r : List Nd) (acc2 : List Txt) (hr : Ev (fun k => iF28.l0 k (ws0.map B) (acc2.map B) (xs.map B) (xs.length : Int) ((i + 1 : Nat) : Int)) r) :
  ∀ (d n : Nat) (acc : List Txt), n + d = w.length → acc ++ begF w (n + 1) d = acc2 → acc2.length ≤ 1000000 → Ev (fun k => iF28.l1 k (ws0.map B) (acc.map B) (B w) (xs.map B) (xs.length : Int) (i : Int) (w.length : Int) (n : Int)) r := by
 intro d
 induction d with
 | zero =>
  intro n acc h1 h2 h3
  rw [begF, List.append_nil] at h2
  subst h2
  refine Ev.step (fun k => iF28.l1.eq_2 ..) (Ev.ifF (by omega) ?_)
  rw [wrap64_succ i (by omega)]
  exact hr
 | succ d ih =>
  intro n acc h1 h2 h3
  have hl : acc.length ≤ 1000000 := by rw [← h2, List.length_append] at h3; omega
  refine Ev.step (fun k => iF28.l1.eq_2 ..) (Ev.ifT (by omega) ?_)
  rw [wrap64_succ n (by omega)]
  refine Ev.ifT (by omega) (Ev.ifT (by rw [size_B]; omega) (Ev.ifT (by rw [List.length_map]; omega) ?_))
  rw [extract_B, List.drop_zero, Int.toNat_natCast, Nat.sub_zero]
  have := ih (n + 1) (acc ++ [w.take (n + 1)]) (by omega) (by rw [← h2, begF]; simp) h3
  rw [List.map_append, List.map_singleton] at this
  exact this
theorem trieOf_out (ws0 xs : List Txt) (hl : xs.length ≤ 1000) (hw : ∀ w ∈ xs, w.length ≤ 12) (r : List Nd) (hr : Ev (fun k => iF28.l2 k (ws0.map B) ((preL xs).map B) ((preL xs).length : Int) 0 []) r) :
  ∀ (d i : Nat) (acc : List Txt), i + d = xs.length → acc ++ (xs.drop i).flatMap begs = [] :: xs.flatMap begs → Ev (fun k => iF28.l0 k (ws0.map B) (acc.map B) (xs.map B) (xs.length : Int) (i : Int)) r := by
 have hall := flatMap_begs_length xs hw
 have hpl := preL_length hw
 intro d
 induction d with
 | zero =>
  intro i acc h1 h2
  rw [List.drop_of_length_le (by omega), List.flatMap_nil, List.append_nil] at h2
  subst h2
  refine Ev.step (fun k => iF28.l0.eq_2 ..) (Ev.ifF (by omega) ?_)
  rw [set_eq _ (by rw [List.length_cons]; omega)]
  refine Ev.some_bind (Ev.ifT ?_ ?_)
  ·
   unfold SM.okL
   rw [Bool.and_eq_true, List.all_eq_true, decide_eq_true_eq]
   refine ⟨fun x hx => ?_, by rw [List.length_map]; show (preL xs).length ≤ _; omega⟩
   obtain ⟨y, hy, rfl⟩ := List.mem_map.1 hx
   have hy' : y ∈ preL xs := hy
   have : y.length ≤ 12 := by
    rcases mem_preL.1 hy' with rfl | ⟨w, hw', _, hp⟩
    ·
     simp
    exact Nat.le_trans hp.length_le (hw w hw')
   rw [decide_eq_true_eq, size_B]; omega
  rw [List.length_map]
  exact hr
 | succ d ih =>
  intro i acc h1 h2
  have hi : i < xs.length := by omega
  rw [drop_cons_getD [] hi, List.flatMap_cons, ← List.append_assoc] at h2
  refine Ev.step (fun k => iF28.l0.eq_2 ..) (Ev.ifT (by omega) (Ev.ifT (by omega) (Ev.ifT (by rw [List.length_map]; omega) ?_)))
  rw [rdB xs i hi, size_B]
  have hlen : (acc ++ begs (xs.getD i [])).length ≤ 1000000 := by
   have := congrArg List.length h2
   rw [List.length_append, List.length_cons] at this
   omega
  exact trieOf_in ws0 xs _ (hw _ (getD_mem hi)) i (by omega) r _ (ih (i + 1) _ (by omega) h2) (xs.getD i []).length 0 acc (by omega) (by rw [begs_begF]) hlen
theorem at_take {P : List Txt} (hA : Asc P) (q : Txt) (j : Nat) (hj : j < P.length) (hq : P.getD j [] = q) : ∀ n, n ≤ P.length → j < n → SM.at_ (List.take n (P.map B)) (B q) = (j : Int) := by
 intro n
 induction n with
 | zero => intro _ h; omega
 | succ n ih =>
  intro h1 h2
  have hn : n < P.length := by omega
  rw [← List.map_take, take_succ_getD [] hn, List.map_append, List.map_singleton]
  unfold SM.at_
  rw [List.reverse_append, List.reverse_singleton, List.singleton_append, SM.atR, data_B, data_B]
  by_cases e : P.getD n [] = q
  ·
   have : n = j := asc_inj hA hn hj (e.trans hq.symm)
   rw [if_pos e, List.length_reverse, List.length_map, List.length_take]; omega
  have hjn : j < n := by
   rcases Nat.lt_or_ge j n with h | h
   ·
    exact h
   have : j = n := by omega
   subst this; exact absurd hq e
  rw [if_neg e, List.map_take]
  exact ih (by omega) hjn
theorem trieOf_nodes {ws P : List Txt} (hs : Srt ws) (hA : Asc P) (hC : Clo P) (hW : ∀ p ∈ P, wordL p = true) (hP : P.length ≤ 100000) (hl : ws.length ≤ 100000) : ∀ (d i : Nat) (acc : List Nd), i + d = P.length → acc.length ≤ i →
  Ev (fun k => iF28.l2 k (ws.map B) (P.map B) (P.length : Int) (i : Int) acc) (acc ++ ((P.drop i).map fun p => mkN (ndL P ws p))) := by
 intro d
 induction d with
 | zero =>
  intro i acc h1 h2
  rw [List.drop_of_length_le (by omega), List.map_nil, List.append_nil]
  exact Ev.step (fun k => iF28.l2.eq_2 ..) (Ev.ifF (by omega) (Ev.now _))
 | succ d ih =>
  intro i acc h1 h2
  have hi : i < P.length := by omega
  have hm := getD_mem hi
  rw [drop_cons_getD [] hi, List.map_cons]
  refine Ev.step (fun k => iF28.l2.eq_2 ..) (Ev.ifT (by omega) (Ev.ifT (by omega) (Ev.ifT (by rw [List.length_map]; omega) ?_)))
  rw [rdB P i hi]
  obtain ⟨q, _, _, _, hq⟩ := search_ev ws (P.getD i []) (by omega) hs
  refine Ev.bind hq ?_
  have hcons : ∀ x : Nd, acc ++ (x :: (P.drop (i + 1)).map fun p => mkN (ndL P ws p)) = (acc ++ [x]) ++ (P.drop (i + 1)).map fun p => mkN (ndL P ws p) := fun x => by simp
  rw [hcons, toList_B]
  by_cases hp : P.getD i [] = []
  ·
   refine Ev.ifT hp (Ev.ifT (by omega) ?_)
   have hx : mkN (ndL P ws (P.getD i [])) = ⟨-1, -1, decide (P.getD i [] ∈ ws)⟩ := by unfold mkN ndL; rw [if_pos hp, if_pos hp]
   rw [hx, wrap64_succ i (by omega)]
   exact ih (i + 1) _ (by omega) (by simp; omega)
  have h0 : 0 < i := by
   rcases Nat.eq_zero_or_pos i with e | e
   ·
    rw [e, (clo_zero hA hC).2] at hp; exact absurd rfl hp
   exact e
  have hlen := List.length_pos_iff.2 hp
  have h12 := (wordL_iff.1 (hW _ hm)).2
  obtain ⟨j1, j2⟩ := clo_parent hA hC hi h0
  have hw1 : wrap64 (((B (P.getD i [])).size : Int) - 1) = ((P.getD i []).length - 1 : Nat) := by rw [size_B, wrap64_id (by omega) (by omega)]; omega
  rw [hw1]
  refine Ev.ifF hp (Ev.ifT (by omega) (Ev.ifT (by rw [size_B]; omega) (Ev.ifT (by rw [size_B]; omega) (Ev.ifT (by omega) ?_))))
  rw [extract_B, List.drop_zero, Int.toNat_natCast, Int.toNat_natCast, Nat.sub_zero, ← List.dropLast_eq_take, at_take hA _ _ (by omega) j2 (i + 1) (by omega) (by omega)]
  have hx : mkN (ndL P ws (P.getD i [])) = ⟨((bt (B (P.getD i [])) (((P.getD i []).length - 1 : Nat) : Int)) - 97) % 256, (placeL P (P.getD i []).dropLast : Int), decide (P.getD i [] ∈ ws)⟩ := by
   unfold mkN ndL
   rw [if_neg hp, if_neg hp, bt_B _ _ (by omega)]
   rfl
  rw [hx, wrap64_succ i (by omega)]
  exact ih (i + 1) _ (by omega) (by simp; omega)
theorem trieOf_srt {ws : List Txt} (hs : Srt ws) (hw : ∀ w ∈ ws, wordL w = true) (hl : ws.length ≤ 1000) : Ev (fun k => iF28.f k (ws.map B)) (trN (preL ws) ws) := by
 have hle : ∀ w ∈ ws, w.length ≤ 12 := fun w h => (wordL_iff.1 (hw w h)).2
 have hpl := preL_length hle
 have hn := trieOf_nodes hs (asc_preL ws) (clo_preL ws) (fun p hp => preL_word hw hp) (by omega) (by omega) (preL ws).length 0 [] (by omega) (by simp)
 rw [List.drop_zero, List.nil_append] at hn
 have e : (preL ws).map (fun p => mkN (ndL (preL ws) ws p)) = trN (preL ws) ws := by unfold trN nodesL; rw [List.map_map]; rfl
 rw [e] at hn
 unfold iF28.f
 rw [List.length_map]
 exact trieOf_out ws ws hl hle _ hn ws.length 0 [[]] (by omega) rfl
theorem trieOf_ev {ws : List Txt} (h : OkW ws) : Ev (fun k => iF28.f k (ws.map B)) (trN (preL ws) ws) := trieOf_srt (srt_asc h.asc) h.word (by have := h.len; omega)
theorem areLettersW_eq (l : List UInt8) (hl : l.length ≤ 9223372036854775807) : iF17.f (B l) = some (l.all letterB) := by
 unfold iF17.f
 rw [if_pos (by simpa using hl), data_B]
 rfl
theorem isWord_eq (l : List UInt8) : iF21.f (B l) = some (wordL l) := by
 unfold iF21.f wordL
 by_cases h : l.length ≤ 12
 ·
  rw [if_pos (by simp; omega), areLettersW_eq l (by omega)]; simp [h]
 rw [if_neg (by simp; omega)]; simp [h]
end Go.Proofs.YtblcdgnihmcdpaaGreatDoor.L
namespace Go.Proofs.YtblcdgnihmcdpaaGreatDoor.L
open Go.RowKit Go.Proofs.YtblcdgnihmcdpaaGreatDoor.P Go.Proofs.YtblcdgnihmcdpaaGreatDoor.M Go.Proofs.YtblcdgnihmcdpaaGreatDoorW.PrintWords Go.Proofs.YtblcdgnihmcdpaaGreatDoorW.PrintLast Go.Proofs.YtblcdgnihmcdpaaGreatDoorW.PrintMore
namespace SubTrie
theorem sub_cols (s : Txt) (i : Nat) : ∀ d j x, x ∈ colsL s i j d → ∀ c ∈ x, c ∈ s := by
 intro d j x h c hc
 obtain ⟨_, _, m, _, _, rfl⟩ := mem_colsL s i d j x h
 exact List.mem_of_mem_drop (List.mem_of_mem_take hc)
theorem sub_rows (s : Txt) : ∀ d i x, x ∈ rowsL s i d → ∀ c ∈ x, c ∈ s
 | 0, _, x, h => by simp [rowsL] at h
 | d + 1, i, x, h => by
  rw [rowsL, List.mem_append] at h
  rcases h with h | h
  ·
   exact sub_cols s i _ _ x h
  exact sub_rows s d (i + 1) x h
theorem parts_word {s : Txt} (h1 : s.all letterB = true) (h2 : s.length ≤ 12) {x : Txt} (hx : x ∈ partsL s) : wordL x = true := by
 refine wordL_iff.2 ⟨fun c hc => ?_, Nat.le_trans (mem_partsL hx).1 h2⟩
 exact List.all_eq_true.1 h1 c (sub_rows s _ 0 x ((mem_setL _ _).1 hx) c hc)
theorem cols_all (s : Txt) (i : Nat) : ∀ d j, 0 < d → (s.drop i).take (j + d - 1 - i) ∈ colsL s i j d
 | 0, _, h => by omega
 | d + 1, j, _ => by
  rw [colsL]
  rcases Nat.eq_zero_or_pos d with h0 | h0
  ·
   subst h0
   rw [show j + (0 + 1) - 1 - i = j - i from by omega]
   exact List.mem_cons_self
  have := cols_all s i d (j + 1) h0
  rw [show j + 1 + d - 1 - i = j + (d + 1) - 1 - i from by omega] at this
  exact List.mem_cons_of_mem _ this
theorem self_part {s : Txt} (h : 0 < s.length) : s ∈ partsL s := by
 refine (mem_setL _ _).2 ?_
 unfold rawL
 have h1 := cols_all s 0 s.length 1 h
 rw [show 1 + s.length - 1 - 0 = s.length from by omega, List.drop_zero, List.take_length] at h1
 have e : ∀ d, rowsL s 0 (d + 1) = colsL s 0 1 (s.length - 0) ++ rowsL s 1 d := fun d => rfl
 have h2 := e (s.length - 1)
 rw [show s.length - 1 + 1 = s.length from by omega] at h2
 rw [h2]
 exact List.mem_append_left _ (by rw [Nat.sub_zero]; exact h1)
theorem putL_set (s : Txt) : setL (partsL s ++ [[]]) = putL (partsL s) [] := by
 have := setL_of_asc (asc_setL (rawL s))
 unfold partsL
 show (setL (rawL s) ++ [[]]).foldl putL [] = _
 rw [List.foldl_append]
 show putL (setL (setL (rawL s))) [] = _
 rw [this]
theorem any_ev (l : List Txt) : iF16.f (l.map B) = some (l.any fun x => !wordL x) := by
 unfold iF16.f
 rw [anyf_of (fun x => !wordL x.data.toList) (fun x hx => by
  obtain ⟨y, _, rfl⟩ := List.mem_map.1 hx
  unfold iF16.p
  rw [isWord_eq, data_B]; rfl), List.any_map]
 exact congrArg some (congrArg (List.any l) (funext fun x => by show (!wordL (B x).data.toList) = _; rw [data_B]))
theorem both (s : Txt) (hs : s.length ≤ 1048576) : ∃ r : List Nd × Bool, (r.2 = true → text8 s = true ∧ OkW (putL (partsL s) []) ∧ r.1 = trN (preL (putL (partsL s) [])) (putL (partsL s) [])) ∧ (text8 s = false → r.2 = false) ∧ r.1.length ≤ 1000 ∧ Ev (fun k => sF44.f k (B s)) r ∧ Ev (fun k => iF13.f k (B s)) r := by
 have e1 := l8Text_ev s (by omega)
 have s0 : Ev (fun k => sF44.j0 k (B s) true) ([], false) := Ev.step (fun k => sF44.j0.eq_2 ..) (Ev.ifT rfl (Ev.now _))
 unfold sF44.f iF13.f
 by_cases h1 : text8 s = true
 rotate_left
 ·
  rw [Bool.not_eq_true] at h1
  rw [h1] at e1
  refine ⟨([], false), fun h => (by cases h), fun _ => rfl, by simp, Ev.bind e1 (Ev.ifF Bool.false_ne_true s0), Ev.bind (a := ([], false)) ?_ (Ev.ifF Bool.false_ne_true (Ev.now _))⟩
  unfold iF14.f
  rw [isText_eq, h1]
  exact Ev.some_bind (Ev.ifF Bool.false_ne_true (Ev.now _))
 rw [h1] at e1
 have h1' : (s.all letterB && decide (s.length ≤ 16)) = true := h1
 rw [Bool.and_eq_true, decide_eq_true_eq] at h1'
 obtain ⟨hl, h16⟩ := h1'
 have h256 := partsL_length s h16
 have hsub : Ev (fun k => iF14.f k (B s)) ((partsL s).map B, true) := by
  unfold iF14.f
  rw [isText_eq, h1]
  exact Ev.some_bind (Ev.ifT rfl (Ev.bind (substrings_ev s h16) (Ev.ifT (by rw [List.length_map]; omega) (Ev.now _))))
 have hap : (partsL s).map B ++ [(⟨#[]⟩ : ByteArray)] = (partsL s ++ [[]]).map B := by rw [List.map_append]; rfl
 by_cases h12 : s.length ≤ 12
 rotate_left
 ·
  have hany : ((partsL s ++ [[]]).any fun x => !wordL x) = true := List.any_eq_true.2 ⟨s, List.mem_append_left _ (self_part (by omega)), by
   cases hw : wordL s with
   | false => rfl
   | true => exact absurd (wordL_iff.1 hw).2 h12⟩
  refine ⟨([], false), fun h => (by cases h), fun _ => rfl, by simp, Ev.bind e1 (Ev.ifT rfl ?_), Ev.bind hsub (Ev.ifT rfl ?_)⟩
  ·
   rw [size_B]
   exact Ev.step (fun k => sF44.j0.eq_2 ..) (Ev.ifT (by simp; omega) (Ev.now _))
  have hto : Ev (fun k => iF15.f k ((partsL s ++ [[]]).map B)) (([] : List Nd), false) := by
   unfold iF15.f
   rw [any_ev, hany]
   exact Ev.some_bind (Ev.ifT rfl (Ev.now _))
  refine Ev.ifT (by rw [List.length_map]; omega) ?_
  rw [hap]
  exact Ev.bind hto (Ev.now _)
 have hall : (partsL s ++ [[]]).all wordL = true := List.all_eq_true.2 fun x hx => by
  rcases List.mem_append.1 hx with hx | hx
  ·
   exact parts_word hl h12 hx
  obtain rfl := List.mem_singleton.1 hx; rfl
 have hany : ((partsL s ++ [[]]).any fun x => !wordL x) = false := by
  rw [List.any_eq_false]
  intro x hx
  rw [List.all_eq_true.1 hall x hx]
  exact Bool.false_ne_true
 have hput := l2Put_eq (partsL s) [] (by omega) (fun x hx => by have := (mem_partsL hx).1; omega)
 have hpl := putL_length_le (partsL s) []
 have hset := set_eq (partsL s ++ [[]]) (by simp; omega)
 rw [putL_set] at hset
 by_cases h40 : (putL (partsL s) []).length ≤ 40
 ·
  have hok : OkW (putL (partsL s) []) := ⟨asc_putL _ _ (asc_setL _), h40, fun x hx => by
   rcases (mem_putL _ _ _).1 hx with rfl | hx
   ·
    rfl
   exact parts_word hl h12 hx⟩
  refine ⟨(trN (preL (putL (partsL s) [])) (putL (partsL s) []), true), fun _ => ⟨h1, hok, rfl⟩, fun h => (by rw [h1] at h; cases h), by rw [trN_length]; have := hok.pre; omega, Ev.bind e1 (Ev.ifT rfl ?_), Ev.bind hsub (Ev.ifT rfl ?_)⟩
  ·
   refine Ev.step (fun k => sF44.j0.eq_2 ..) (Ev.ifF (by rw [size_B]; simp; omega) (Ev.bind (l8Parts_ev s h16) ?_))
   rw [nil_B, hput]
   refine Ev.some_bind (Ev.ifF (by rw [List.length_map]; omega) (Ev.bind (l2Of_ev hok) (Ev.now _)))
  have hto : Ev (fun k => iF15.f k ((partsL s ++ [[]]).map B)) (trN (preL (putL (partsL s) [])) (putL (partsL s) []), true) := by
   have ho : Ev (fun k => iF24.f k ((partsL s ++ [[]]).map B)) (trN (preL (putL (partsL s) [])) (putL (partsL s) []), true) := by
    unfold iF24.f
    rw [hset]
    exact Ev.some_bind (Ev.ifF (by rw [List.length_map]; omega) (Ev.bind (trieOf_ev hok) (Ev.now _)))
   unfold iF15.f
   rw [any_ev, hany]
   exact Ev.some_bind (Ev.ifF Bool.false_ne_true (Ev.bind ho (Ev.now _)))
  refine Ev.ifT (by rw [List.length_map]; omega) ?_
  rw [hap]
  exact Ev.bind hto (Ev.now _)
 refine ⟨([], false), fun h => (by cases h), fun _ => rfl, by simp, Ev.bind e1 (Ev.ifT rfl ?_), Ev.bind hsub (Ev.ifT rfl ?_)⟩
 ·
  refine Ev.step (fun k => sF44.j0.eq_2 ..) (Ev.ifF (by rw [size_B]; simp; omega) (Ev.bind (l8Parts_ev s h16) ?_))
  rw [nil_B, hput]
  exact Ev.some_bind (Ev.ifT (by rw [List.length_map]; omega) (Ev.now _))
 have hto : Ev (fun k => iF15.f k ((partsL s ++ [[]]).map B)) (([] : List Nd), false) := by
  have ho : Ev (fun k => iF24.f k ((partsL s ++ [[]]).map B)) (([] : List Nd), false) := by
   unfold iF24.f
   rw [hset]
   exact Ev.some_bind (Ev.ifT (by rw [List.length_map]; omega) (Ev.now _))
  unfold iF15.f
  rw [any_ev, hany]
  exact Ev.some_bind (Ev.ifF Bool.false_ne_true (Ev.bind ho (Ev.now _)))
 refine Ev.ifT (by rw [List.length_map]; omega) ?_
 rw [hap]
 exact Ev.bind hto (Ev.now _)
end SubTrie
end Go.Proofs.YtblcdgnihmcdpaaGreatDoor.L
namespace Go.Proofs.YtblcdgnihmcdpaaGreatDoor.L
open Go.RowKit Go.Proofs.YtblcdgnihmcdpaaGreatDoor.P Go.Proofs.YtblcdgnihmcdpaaGreatDoor.M Go.Proofs.YtblcdgnihmcdpaaGreatDoorW.PrintWords Go.Proofs.YtblcdgnihmcdpaaGreatDoorW.PrintLast Go.Proofs.YtblcdgnihmcdpaaGreatDoorW.PrintMore
def isum (l : List Int) : Int := l.foldr (· + ·) 0
theorem isum_cons (x : Int) (l : List Int) : isum (x :: l) = x + isum l := rfl
theorem isum_set : ∀ (l : List Int) (j : Nat) (v : Int), j < l.length → isum (l.set j v) = isum l - l.getD j 0 + v
 | [], j, v, h => by simp at h
 | x :: l, 0, v, _ => by rw [List.set_cons_zero, isum_cons, isum_cons, List.getD_cons_zero]; omega
 | x :: l, j + 1, v, h => by
  rw [List.set_cons_succ, isum_cons, isum_cons, List.getD_cons_succ, isum_set l j v (by simpa using h)]; omega
theorem isum_zero : ∀ n, isum (List.replicate n 0) = 0
 | 0 => rfl
 | n + 1 => by rw [List.replicate_succ, isum_cons, isum_zero n]; rfl
theorem isum_nat : ∀ l : List Nat, isum (l.map fun n : Nat => (n : Int)) = ((l.sum : Nat) : Int)
 | [] => rfl
 | x :: l => by rw [List.map_cons, isum_cons, isum_nat l, List.sum_cons]; omega
theorem bumps : ∀ (l : List Txt) (h : Int) (t : List Int) (K : Int), (∀ x ∈ l, 1 ≤ x.length ∧ x.length ≤ t.length) → (∀ i, 0 ≤ t.getD i 0 ∧ t.getD i 0 ≤ K) → 0 ≤ K → K + l.length ≤ 1000000 →
  ∃ t', l.foldl bump (h :: t) = h :: t' ∧ isum t' = isum t + l.length ∧ t'.length = t.length ∧ ∀ i, 0 ≤ t'.getD i 0 ∧ t'.getD i 0 ≤ K + l.length
 | [], h, t, K, _, h2, _, _ => ⟨t, rfl, by simp, rfl, by simpa using h2⟩
 | x :: l, h, t, K, h1, h2, h3, h4 => by
  obtain ⟨a1, a2⟩ := h1 x (by simp)
  rw [List.length_cons] at h4
  obtain ⟨n, hn⟩ : ∃ n, x.length = n + 1 := ⟨x.length - 1, by omega⟩
  have hb : bump (h :: t) x = h :: t.set n (t.getD n 0 + 1) := by
   have := h2 n
   unfold bump
   rw [hn, List.set_cons_succ, rd_nat, List.getD_cons_succ, wrap64_id (by omega) (by omega)]
  have hs : ∀ i, (t.set n (t.getD n 0 + 1)).getD i 0 = if i = n then t.getD n 0 + 1 else t.getD i 0 := fun i => by
   rw [List.getD_eq_getElem?_getD, List.getD_eq_getElem?_getD, List.getElem?_set]
   by_cases hi : n = i
   ·
    subst hi
    rw [if_pos rfl, if_pos (by omega), if_pos rfl]; rfl
   rw [if_neg hi, if_neg (fun e => hi e.symm), List.getD_eq_getElem?_getD]
  obtain ⟨t', e1, e2, e3, e4⟩ := bumps l h (t.set n (t.getD n 0 + 1)) (K + 1) (fun y hy => by rw [List.length_set]; exact h1 y (by simp [hy])) (fun i => by
   rw [hs]
   have := h2 i
   have := h2 n
   split <;> omega) (by omega) (by omega)
  refine ⟨t', by rw [List.foldl_cons, hb]; exact e1, ?_, by rw [e3, List.length_set], fun i => ?_⟩
  ·
   rw [e2, isum_set t n _ (by omega), List.length_cons]; omega
  have := e4 i
  rw [List.length_cons]; omega
theorem counts_spec (s : Txt) (h16 : s.length ≤ 16) : ∃ t', (partsL s).foldl bump ((List.replicate (s.length + 1) (0 : Int)).set 0 1) = 1 :: t' ∧ isum t' = (partsL s).length ∧ t'.length = s.length ∧ ∀ i, 0 ≤ t'.getD i 0 ∧ t'.getD i 0 ≤ 256 := by
 have h256 := partsL_length s h16
 obtain ⟨t', e1, e2, e3, e4⟩ := bumps (partsL s) 1 (List.replicate s.length 0) 0 (fun x hx => by
  have := mem_partsL hx
  rw [List.length_replicate]; omega) (fun i => by
  rw [List.getD_eq_getElem?_getD, List.getElem?_replicate]
  by_cases h : i < s.length
  ·
   rw [if_pos h]; simp
  rw [if_neg h]; simp) (by omega) (by omega)
 rw [List.length_replicate] at e3
 rw [isum_zero] at e2
 exact ⟨t', by rw [List.replicate_succ, List.set_cons_zero]; exact e1, by omega, e3, fun i => by have := e4 i; omega⟩
theorem cm_lcp (s : Txt) (n : Nat) (T : List Txt) (hT : ∀ t ∈ T, ∃ i, i ≤ s.length ∧ t = s.drop i) (hn : n + 1 < T.length) : cm s (T.map fun t => (s.length : Int) - (t.length : Int)) n = ((lcp (T.getD n []) (T.getD (n + 1) []) : Nat) : Int) := by
 have key : ∀ m, m < T.length → s.drop (((T.map fun t => (s.length : Int) - (t.length : Int)).getD m 0).toNat) = T.getD m [] := fun m hm => by
  rw [getD_lt 0 (by simpa using hm), List.getElem_map, getD_lt [] hm]
  obtain ⟨i, hi, e⟩ := hT (T[m]) (List.getElem_mem _)
  have hl := congrArg List.length e
  rw [List.length_drop] at hl
  rw [show ((s.length : Int) - ((T[m]).length : Int)).toNat = i from by omega]
  exact e.symm
 unfold cm lcp
 rw [key n (by omega), key (n + 1) hn]
theorem next_com (s : Txt) (T : List Txt) (hT : ∀ t ∈ T, ∃ i, i ≤ s.length ∧ t = s.drop i) : ∀ d n, n + d + 1 = T.length → nextFrom s (T.map fun t => (s.length : Int) - (t.length : Int)) n d = (comL (T.drop n)).map fun n : Nat => (n : Int)
 | 0, n, h => by
  rw [drop_cons_getD [] (show n < T.length by omega), List.drop_of_length_le (show T.length ≤ n + 1 by omega)]
  rfl
 | d + 1, n, h => by
  rw [nextFrom, cm_lcp s n T hT (by omega), next_com s T hT d (n + 1) (by omega)]
  rw [drop_cons_getD [] (show n < T.length by omega), drop_cons_getD [] (show n + 1 < T.length by omega), comL]
  rfl
theorem next_sum (s : Txt) : nextFrom s (endsL s) 0 (s.length - 1) = (comL (setL (suffs s))).map fun n : Nat => (n : Int) := by
 have hT : ∀ t ∈ setL (suffs s), ∃ i, i ≤ s.length ∧ t = s.drop i := fun t ht => by
  obtain ⟨i, hi, rfl⟩ := List.mem_map.1 ((mem_setL _ _).1 ht)
  rw [List.mem_range] at hi
  exact ⟨i, by omega, rfl⟩
 have hl : (setL (suffs s)).length = s.length := by
  have := endsL_length s
  unfold endsL at this
  simpa using this
 by_cases h0 : s.length = 0
 ·
  have : setL (suffs s) = [] := List.length_eq_zero_iff.1 (by omega)
  rw [h0, this]; rfl
 have := next_com s (setL (suffs s)) hT (s.length - 1) 0 (by omega)
 rw [List.drop_zero] at this
 exact this
theorem comL_le : ∀ l : List Txt, (∀ t ∈ l, t.length ≤ 16) → ∀ n ∈ comL l, n ≤ 16
 | [], _, n, h => by simp [comL] at h
 | [t], _, n, h => by simp [comL] at h
 | t :: u :: r, ht, n, h => by
  rw [comL] at h
  rcases List.mem_cons.1 h with rfl | h
  ·
   exact Nat.le_trans (lcp_le t u) (ht t (by simp))
  exact comL_le (u :: r) (fun x hx => ht x (List.mem_cons_of_mem _ hx)) n h
theorem rInts_same (l : List Int) (hl : l.length ≤ 1000000) : Ev (fun k => wF31.f k l l) true := by
 have key : ∀ d n, n + d = l.length → Ev (fun k => wF31.l0 k l l (n : Int)) true := by
  intro d
  induction d with
  | zero => intro n h; exact Ev.step (fun k => wF31.l0.eq_2 ..) (Ev.ifF (by omega) (Ev.now _))
  | succ d ih =>
   intro n h
   refine Ev.step (fun k => wF31.l0.eq_2 ..) (Ev.ifT (by omega) (Ev.ifT (by omega) (Ev.ifT (by omega) (Ev.ifT rfl ?_))))
   simpa only [wrap64_succ n (by omega)] using ih (n + 1) (by omega)
 unfold wF31.f
 exact Ev.ifT rfl (by simpa using key l.length 0 (by omega))
theorem rTextsS (l : List ByteArray) (hl : l.length ≤ 1000000) : Ev (fun k => wF32.f k l l) true := by
 have key : ∀ d n, n + d = l.length → Ev (fun k => wF32.l0 k l l (n : Int)) true := by
  intro d
  induction d with
  | zero => intro n h; exact Ev.step (fun k => wF32.l0.eq_2 ..) (Ev.ifF (by omega) (Ev.now _))
  | succ d ih =>
   intro n h
   refine Ev.step (fun k => wF32.l0.eq_2 ..) (Ev.ifT (by omega) (Ev.ifT (by omega) (Ev.ifT (by omega) (Ev.ifT rfl ?_))))
   simpa only [wrap64_succ n (by omega)] using ih (n + 1) (by omega)
 unfold wF32.f
 exact Ev.ifT rfl (by simpa using key l.length 0 (by omega))
theorem rTrie_same (l : List S46) (hl : l.length ≤ 1000000) : Ev (fun k => wF33.f k l l) true := by
 have key : ∀ d n, n + d = l.length → Ev (fun k => wF33.l0 k (n : Int) l l) true := by
  intro d
  induction d with
  | zero => intro n h; exact Ev.step (fun k => wF33.l0.eq_2 ..) (Ev.ifF (by omega) (Ev.now _))
  | succ d ih =>
   intro n h
   refine Ev.step (fun k => wF33.l0.eq_2 ..) (Ev.ifT (by omega) (Ev.ifT (by omega) (Ev.ifT (by omega) (Ev.ifF (by simp) ?_))))
   simpa only [wrap64_succ n (by omega)] using ih (n + 1) (by omega)
 unfold wF33.f
 exact Ev.ifT rfl (by simpa using key l.length 0 (by omega))
theorem putL_nil : ∀ l : List Txt, (∀ x ∈ l, x ≠ []) → putL l [] = [] :: l
 | [], _ => rfl
 | x :: r, h => by
  have h1 : ¬ x < [] := by simp
  have h2 : x ≠ [] := h x (by simp)
  rw [putL, if_neg h1, if_neg h2]
theorem pre_parts (s : Txt) : preL (putL (partsL s) []) = putL (partsL s) [] := by
 unfold preL
 refine asc_ext _ _ (asc_setL _) (asc_putL _ _ (asc_setL _)) fun x => ?_
 rw [mem_setL, List.mem_cons, List.mem_flatMap, mem_putL]
 constructor
 ·
  rintro (h | ⟨w, hw, hx⟩)
  ·
   exact .inl h
  obtain ⟨h1, h2⟩ := mem_begs.1 hx
  rcases (mem_putL _ _ _).1 hw with rfl | hw
  ·
   exact absurd (List.prefix_nil.1 h2) h1
  obtain ⟨_, i, h3⟩ := (mem_parts_iff s w).1 hw
  refine .inr ((mem_parts_iff s x).2 ⟨h1, i, (hasPre_iff _ _).2 ?_⟩)
  have h4 := List.prefix_iff_eq_take.1 h2
  have h5 := congrArg (List.take x.length) ((hasPre_iff _ _).1 h3)
  rw [List.take_take, Nat.min_eq_left h2.length_le, ← h4] at h5
  exact h5
 rintro (h | h)
 ·
  exact .inl h
 exact .inr ⟨x, (mem_putL _ _ _).2 (.inr h), mem_begs.2 ⟨((mem_parts_iff s x).1 h).1, List.prefix_refl _⟩⟩
theorem trie_length (s : Txt) : (trN (preL (putL (partsL s) [])) (putL (partsL s) [])).length = (partsL s).length + 1 := by
 rw [trN_length, pre_parts, putL_nil _ (fun x hx => List.length_pos_iff.1 (mem_partsL hx).2), List.length_cons]
theorem trie_end (s : Txt) (n : Nat) (h : n < (partsL s).length + 1) : (rd_T46 (trN (preL (putL (partsL s) [])) (putL (partsL s) [])) (n : Int)).f2 = true := by
 have hl : (putL (partsL s) []).length = (partsL s).length + 1 := by
  rw [putL_nil _ (fun x hx => List.length_pos_iff.1 (mem_partsL hx).2), List.length_cons]
 rw [pre_parts, rdN _ _ n (by omega)]
 show decide ((putL (partsL s) []).getD n [] ∈ putL (partsL s) []) = true
 rw [getD_lt [] (by omega), decide_eq_true_eq]
 exact List.getElem_mem _
end Go.Proofs.YtblcdgnihmcdpaaGreatDoor.L
namespace Go.Proofs.YtblcdgnihmcdpaaGreatDoor.Pure
open Go.RowKit Go.Proofs.YtblcdgnihmcdpaaGreatDoor.P Go.Proofs.YtblcdgnihmcdpaaGreatDoor.M Go.Proofs.YtblcdgnihmcdpaaGreatDoorW.PrintWords Go.Proofs.YtblcdgnihmcdpaaGreatDoorW.PrintLast Go.Proofs.YtblcdgnihmcdpaaGreatDoorW.PrintMore
open Go.Proofs.YtblcdgnihmcdpaaGreatDoor.L
namespace Sub
theorem draw1 {l : List Int} (h : By l) : ∃ t : Txt, Ev (fun k => sF41.f k l) (B t) ∧ t.length ≤ 100 := by
 obtain ⟨t, a, s, e, h1, _⟩ := text_ev h 0 0 (by omega) (by omega)
 exact ⟨t, Ev.bind (a := B t) (Ev.bind e (Ev.now _)) (Ev.now _), h1⟩
theorem draw2 {l : List Int} (h : By l) : ∃ t u : Txt, Ev (fun k => sF40.f k l) (B t, B u) ∧ t.length ≤ 100 ∧ u.length ≤ 100 := by
 obtain ⟨t, a, s, e, h1, h2, h3⟩ := text_ev h 0 0 (by omega) (by omega)
 by_cases c1 : (0 : Int) < ((B t).size : Int)
 rotate_left
 ·
  obtain ⟨u, a3, s3, e3, h4, _⟩ := text_ev h a s (by omega) (by omega)
  exact ⟨t, u, Ev.bind e (Ev.ifF c1 (Ev.bind e3 (Ev.now _))), h1, h4⟩
 obtain ⟨b, a2, s2, e2, g1, g2⟩ := one_ev h a s 4 (by omega) (by omega) (by omega)
 cases b with
 | true =>
  obtain ⟨u, a3, s3, e3, h4, _⟩ := text_ev h a2 s2 (by omega) (by omega)
  refine ⟨t, u, Ev.bind e (Ev.ifT c1 ?_), h1, h4⟩
  dsimp only
  rw [e2]
  exact Ev.some_bind (Ev.ifT rfl (Ev.bind e3 (Ev.now _)))
 | false =>
  rw [size_B] at c1
  obtain ⟨i, a3, s3, e3, i0, i1, g3, g4⟩ := pick_ev h a2 s2 (t.length : Int) (by omega) (by omega) (by omega)
  obtain ⟨m, hm, m1, m2⟩ : ∃ m, sF53.f 3 ((t.length : Int) - i) = some m ∧ 1 ≤ m ∧ m ≤ (t.length : Int) - i := by
   unfold sF53.f
   by_cases c : (3 : Int) < (t.length : Int) - i
   ·
    rw [if_pos c]; exact ⟨3, rfl, by omega, by omega⟩
   rw [if_neg c]; exact ⟨_, rfl, by omega, by omega⟩
  obtain ⟨j, a4, s4, e4, j0, j1, _⟩ := pick_ev h a3 s3 m (by omega) (by omega) m1
  have hw : wrap64 ((t.length : Int) - i) = (t.length : Int) - i := wrap64_id (by omega) (by omega)
  have hw2 : wrap64 (wrap64 (i + 1) + j) = i + 1 + j := by rw [wrap64_id (x := i + 1) (by omega) (by omega), wrap64_id (by omega) (by omega)]
  refine ⟨t, (t.drop i.toNat).take ((i + 1 + j).toNat - i.toNat), Ev.bind e (Ev.ifT (by rw [size_B]; exact c1) ?_), h1, by rw [List.length_take, List.length_drop]; omega⟩
  dsimp only
  rw [e2]
  refine Ev.some_bind (Ev.ifF (by simp) ?_)
  dsimp only
  rw [size_B, e3]
  refine Ev.some_bind ?_
  dsimp only
  rw [hw, hm]
  refine Ev.some_bind ?_
  rw [e4]
  refine Ev.some_bind ?_
  dsimp only
  rw [hw2]
  refine Ev.ifT ⟨i0, by omega, by omega⟩ ?_
  rw [extract_B]
  exact Ev.now _
theorem isText (s : Txt) : iF11.f (B s) = some (text8 s) := by unfold iF11.f; rw [isText_eq]; rfl
theorem last (s : Txt) (h1 : text8 s = true) : ∀ d n, n + d = (partsL s).length → Ev (fun k => wF29.l4 k (B s) ((partsL s).map B) (n : Int)) true := by
 have h16 := text16 h1
 have h256 := partsL_length s h16
 intro d
 induction d with
 | zero => intro n h; exact Ev.step (fun k => wF29.l4.eq_2 ..) (Ev.ifF (by rw [List.length_map]; omega) (Ev.now _))
 | succ d ih =>
  intro n h
  have h2 : n < (partsL s).length := by omega
  have hm : (partsL s).getD n [] ∈ partsL s := by rw [getD_lt [] h2]; exact List.getElem_mem _
  have tl := ih (n + 1) (by omega)
  refine Ev.step (fun k => wF29.l4.eq_2 ..) (Ev.ifT (by rw [List.length_map]; omega) (Ev.ifT (by omega) ?_))
  rw [rdB _ n h2]
  generalize (partsL s).getD n [] = x at hm
  have hx := mem_partsL hm
  have hp := parts_occ hm
  have ho := (occ_both s x (by omega) (by omega)).2
  unfold resOcc at ho
  rw [if_pos ⟨h1, part_text h1 hm, List.length_pos_iff.1 hx.2⟩] at ho
  rw [wrap64_succ n (by omega)]
  exact Ev.bind ho (Ev.ifT rfl (Ev.ifF (by dsimp only; omega) tl))
theorem half_prod (n : Nat) (h : n ≤ 16) (P S : Int) (hS : (P + S) * 2 = ((n * (n + 1) : Nat) : Int)) (hP : 0 ≤ P) (hS0 : 0 ≤ S) : wrap64 (wrap64 (Int.tdiv (wrap64 ((n : Int) * wrap64 ((n : Int) + 1))) 2) - S) = P := by
 have hn : n * (n + 1) ≤ 16 * 17 := Nat.mul_le_mul h (by omega)
 have hmm : (n : Int) * ((n : Int) + 1) = ((n * (n + 1) : Nat) : Int) := by rw [Int.natCast_mul, Int.natCast_add]; rfl
 rw [wrap64_id (x := (n : Int) + 1) (by omega) (by omega), hmm]
 generalize n * (n + 1) = M at hn hS
 rw [wrap64_id (x := (M : Int)) (by omega) (by omega), Int.tdiv_eq_ediv_of_nonneg (by omega), wrap64_id (x := (M : Int) / 2) (by omega) (by omega), wrap64_id (by omega) (by omega)]
 omega
theorem total (s : Txt) (h1 : text8 s = true) (C : List Int) (hC : C = (partsL s).foldl bump ((List.replicate (s.length + 1) (0 : Int)).set 0 1)) (S : Int) (hS : (((partsL s).length : Int) + S) * 2 = ((s.length * (s.length + 1) : Nat) : Int)) (hS0 : 0 ≤ S) :
  ∀ d n (acc : Int), n + d = C.length → 1 ≤ n → acc + isum (C.drop n) = ((partsL s).length : Int) → 0 ≤ acc → acc ≤ 256 * n → Ev (fun k => wF29.l3 k (B s) ((partsL s).map B) ((partsL s).length : Int) C (endsL s) S acc (n : Int)) true := by
 have h16 := text16 h1
 have h256 := partsL_length s h16
 obtain ⟨t', c1, c2, c3, c4⟩ := counts_spec s h16
 rw [← hC] at c1
 have hl : C.length = s.length + 1 := by rw [c1, List.length_cons, c3]
 have hk := half_prod s.length h16 ((partsL s).length : Int) S hS (by omega) hS0
 clear hS hS0
 intro d
 induction d with
 | zero =>
  intro n acc h h0 ha hb hc
  rw [List.drop_of_length_le (by omega)] at ha
  have hacc : acc = ((partsL s).length : Int) := by simpa [isum] using ha
  refine Ev.step (fun k => wF29.l3.eq_2 ..) (Ev.ifF (by omega) ?_)
  rw [size_B, hk]
  have he : (((endsL s).length : Int) != (s.length : Int)) = false := by rw [endsL_length]; simp
  refine Ev.ifT rfl (Ev.ifT hacc (Ev.ifT (by omega) (Ev.ifT (by rw [c1]; rfl) ?_)))
  rw [he]
  refine Ev.step (fun k => wF29.j12.eq_2 ..) (Ev.ifF (by simp) ?_)
  exact last s h1 _ 0 (Nat.zero_add _)
 | succ d ih =>
  intro n acc h h0 ha hb hc
  have h2 : n < C.length := by omega
  have hv : 0 ≤ C.getD n 0 ∧ C.getD n 0 ≤ 256 := by
   obtain ⟨m, rfl⟩ : ∃ m, n = m + 1 := ⟨n - 1, by omega⟩
   rw [c1, List.getD_cons_succ]; exact c4 m
  rw [drop_cons_getD 0 h2, isum_cons] at ha
  refine Ev.step (fun k => wF29.l3.eq_2 ..) (Ev.ifT (by omega) (Ev.ifT (by omega) ?_))
  rw [rd_nat, wrap64_succ n (by omega), wrap64_id (x := acc + C.getD n 0) (by omega) (by omega)]
  exact ih (n + 1) (acc + C.getD n 0) (by omega) (by omega) (by omega) (by omega) (by omega)
theorem firstSum (s : Txt) (h1 : text8 s = true) (C L : List Int) (hC : C = (partsL s).foldl bump ((List.replicate (s.length + 1) (0 : Int)).set 0 1)) (hL : ∀ x ∈ L, 0 ≤ x ∧ x ≤ 16) (hl : L.length ≤ 16) (hS : (((partsL s).length : Int) + isum L) * 2 = ((s.length * (s.length + 1) : Nat) : Int)) (hS0 : 0 ≤ isum L) :
  ∀ d n (acc : Int), n + d = L.length → acc + isum (L.drop n) = isum L → 0 ≤ acc → acc ≤ 16 * n → Ev (fun k => wF29.l2 k (B s) ((partsL s).map B) ((partsL s).length : Int) C (endsL s) L acc 0 (n : Int)) true := by
 have h16 := text16 h1
 obtain ⟨t', c1, c2, c3, c4⟩ := counts_spec s h16
 rw [← hC] at c1
 intro d
 induction d with
 | zero =>
  intro n acc h ha hb hc
  rw [List.drop_of_length_le (by omega)] at ha
  have hacc : acc = isum L := by simpa [isum] using ha
  refine Ev.step (fun k => wF29.l2.eq_2 ..) (Ev.ifF (by omega) ?_)
  rw [hacc]
  refine total s h1 C hC (isum L) hS hS0 s.length 1 0 (by rw [c1, List.length_cons, c3]; omega) (Nat.le_refl _) ?_ (Int.le_refl _) (by omega)
  rw [c1, List.drop_one, List.tail_cons, c2]; omega
 | succ d ih =>
  intro n acc h ha hb hc
  have h2 : n < L.length := by omega
  have hv := hL (L.getD n 0) (by rw [getD_lt 0 h2]; exact List.getElem_mem _)
  rw [drop_cons_getD 0 h2, isum_cons] at ha
  refine Ev.step (fun k => wF29.l2.eq_2 ..) (Ev.ifT (by omega) (Ev.ifT (by omega) ?_))
  rw [rd_nat, wrap64_succ n (by omega), wrap64_id (x := acc + L.getD n 0) (by omega) (by omega)]
  exact ih (n + 1) (acc + L.getD n 0) (by omega) (by omega) (by omega) (by omega)
theorem sums (s : Txt) (h1 : text8 s = true) : Ev (fun k => wF29.l2 k (B s) ((partsL s).map B) ((partsL s).length : Int) ((partsL s).foldl bump ((List.replicate (s.length + 1) (0 : Int)).set 0 1)) (endsL s) (nextFrom s (endsL s) 0 (s.length - 1)) 0 0 0) true := by
 have h16 := text16 h1
 have hp := parts_number s
 have hlen : (nextFrom s (endsL s) 0 (s.length - 1)).length ≤ 16 := by rw [nextFrom_length]; omega
 have hs := isum_nat (comL (setL (suffs s)))
 rw [← next_sum] at hs
 have hall : ∀ x ∈ nextFrom s (endsL s) 0 (s.length - 1), 0 ≤ x ∧ x ≤ 16 := fun x hx => by
  rw [next_sum] at hx
  obtain ⟨n, hn, rfl⟩ := List.mem_map.1 hx
  have := comL_le (setL (suffs s)) (fun t ht => by
   obtain ⟨i, _, rfl⟩ := List.mem_map.1 ((mem_setL _ _).1 ht)
   rw [List.length_drop]; omega) n hn
  omega
 have hd : (((partsL s).length : Int) + isum (nextFrom s (endsL s) 0 (s.length - 1))) * 2 = ((s.length * (s.length + 1) : Nat) : Int) := by
  rw [hs, ← hp, Int.natCast_mul, Int.natCast_add]; rfl
 have hd0 : 0 ≤ isum (nextFrom s (endsL s) 0 (s.length - 1)) := by rw [hs]; exact Int.natCast_nonneg _
 clear hp hs
 simpa using firstSum s h1 _ (nextFrom s (endsL s) 0 (s.length - 1)) rfl hall hlen hd hd0 (nextFrom s (endsL s) 0 (s.length - 1)).length 0 0 (Nat.zero_add _) (by simp) (Int.le_refl _) (by omega)
theorem places (x p : Txt) (hx : x.length ≤ 100) (hp : p.length ≤ 100) (L : List Int) (hL : ∀ z ∈ L, z ∈ occM x p) (hl : L.length ≤ 1000) (s : Txt) (S : List ByteArray) (ok : Bool) (many : Int) (C E N : List Int) (hok : Ev (fun k => if ok = true then wF29.l2 k (B s) S many C E N 0 0 0 else some true) true) :
  ∀ d n, n + d = L.length → Ev (fun k => wF29.l1 k (B s) S ok many C E N (B x) (B p) L (n : Int)) true := by
 intro d
 induction d with
 | zero => intro n h; exact Ev.step (fun k => wF29.l1.eq_2 ..) (Ev.ifF (by omega) hok)
 | succ d ih =>
  intro n h
  have h2 : n < L.length := by omega
  have hm := hL (L.getD n 0) (by rw [getD_lt 0 h2]; exact List.getElem_mem _)
  obtain ⟨i, i1, i2, i3⟩ := (mem_occM x p _).1 hm
  rw [hasPre_iff] at i2
  have i4 := congrArg List.length i2
  rw [List.length_take, List.length_drop] at i4
  have tl := ih (n + 1) (by omega)
  refine Ev.step (fun k => wF29.l1.eq_2 ..) (Ev.ifT (by omega) (Ev.ifT (by omega) ?_))
  rw [rd_nat, i3, size_B, size_B, wrap64_id (x := (i : Int) + (p.length : Int)) (by omega) (by omega), wrap64_succ n (by omega)]
  refine Ev.ifT (by omega) (Ev.ifT (by omega) (Ev.ifT ?_ (Ev.ifT ?_ tl)))
  ·
   by_cases h0 : p.length = 0
   ·
    omega
   omega
  rw [show ((i : Int) + (p.length : Int)).toNat = i + p.length from by omega]
  simp only [Int.toNat_natCast, extract_B, toList_B]
  rw [show i + p.length - i = p.length from by omega]
  exact i2
end Sub
theorem FnSubstrings : wF29.Pure := by
 intro l0 h1 h2 h3
 have hl := by_of h3
 obtain ⟨s, hs, s100⟩ := Sub.draw1 hl
 obtain ⟨x, p, hxp, x100, p100⟩ := Sub.draw2 hl
 have hsub := subs_impl s
 have hsub2 := subs_spec s (by omega)
 obtain ⟨co1, co2⟩ := count_both s (by omega)
 obtain ⟨le1, le2⟩ := len_both s (by omega)
 obtain ⟨en1, en2⟩ := ends_both s (by omega)
 obtain ⟨ne1, ne2⟩ := next_both s (by omega)
 obtain ⟨oc1, oc2⟩ := occ_both x p (by omega) (by omega)
 obtain ⟨⟨N, six⟩, tr1, tr2, tr3, tr4, tr5⟩ := SubTrie.both s (by omega)
 have b1 : (resSub s).2 = text8 s ∧ (resSub s).1.length ≤ 256 := by
  unfold resSub
  by_cases h : text8 s = true
  ·
   rw [if_pos h, h, List.length_map]; exact ⟨rfl, partsL_length s (text16 h)⟩
  rw [if_neg h]; exact ⟨by simpa using h, by simp⟩
 have b2 : (resCount s).2 = text8 s ∧ (text8 s = true → (resCount s).1 = ((resSub s).1.length : Int)) := by
  unfold resCount resSub
  by_cases h : text8 s = true
  ·
   rw [if_pos h, if_pos h, h]; exact ⟨rfl, fun _ => by rw [List.length_map]⟩
  rw [if_neg h]; exact ⟨by simpa using h, fun e => absurd e h⟩
 have b3 : (resLen s).2 = text8 s ∧ (resLen s).1.length ≤ 1000 := by
  unfold resLen
  by_cases h : text8 s = true
  ·
   have := text16 h
   rw [if_pos h, h]; exact ⟨rfl, by rw [bumps_length]; simp; omega⟩
  rw [if_neg h]; exact ⟨by simpa using h, by simp⟩
 have b4 : (resEnds s).2 = text8 s ∧ (resEnds s).1.length ≤ 1000 := by
  unfold resEnds
  by_cases h : text8 s = true
  ·
   have := text16 h
   rw [if_pos h, h]; exact ⟨rfl, by rw [endsL_length]; omega⟩
  rw [if_neg h]; exact ⟨by simpa using h, by simp⟩
 have b5 : (resNext s).2 = text8 s ∧ (resNext s).1.length ≤ 1000 := by
  unfold resNext
  by_cases h : text8 s = true
  ·
   have := text16 h
   rw [if_pos h, h]; exact ⟨rfl, by rw [nextFrom_length]; omega⟩
  rw [if_neg h]; exact ⟨by simpa using h, by simp⟩
 have b6 : (∀ z ∈ (resOcc x p).1, z ∈ occM x p) ∧ (resOcc x p).1.length ≤ 1000 := by
  unfold resOcc
  split
  ·
   exact ⟨fun z hz => hz, by have := occM_length x p; dsimp only; omega⟩
  exact ⟨fun z hz => by simp at hz, by simp⟩
 have k2 : Ev (fun k => if (resSub s).2 = true then wF29.l2 k (B s) (resSub s).1 (resCount s).1 (resLen s).1 (resEnds s).1 (resNext s).1 0 0 0 else some true) true := by
  rw [b1.1]
  by_cases h : text8 s = true
  ·
   refine Ev.ifT h ?_
   have := Sub.sums s h
   unfold resSub resCount resLen resEnds resNext
   rw [if_pos h, if_pos h, if_pos h, if_pos h, if_pos h]
   exact this
  exact Ev.ifF h (Ev.now _)
 have k1 : Ev (fun k => wF29.l1 k (B s) (resSub s).1 (resSub s).2 (resCount s).1 (resLen s).1 (resEnds s).1 (resNext s).1 (B x) (B p) (resOcc x p).1 0) true := by
  simpa using Sub.places x p x100 p100 (resOcc x p).1 b6.1 b6.2 s _ _ _ _ _ _ k2 _ 0 (Nat.zero_add _)
 have j8 : Ev (fun k => wF29.j8 k (B s) (resSub s).1 (resSub s).2 (resCount s).1 (resLen s).1 (resEnds s).1 (resNext s).1 (B x) (B p) (resOcc x p).1) true := Ev.step (fun k => wF29.j8.eq_2 ..) k1
 have j6 : Ev (fun k => wF29.j6 k (B s) (resSub s).1 (resSub s).2 (resCount s).1 (resLen s).1 (resEnds s).1 (resNext s).1 (B x) (B p) (resOcc x p).1 six false N) true := by
  refine Ev.step (fun k => wF29.j6.eq_2 ..) (Ev.ifF (by simp) ?_)
  cases h6 : six with
  | false => exact Ev.ifF (by simp) j8
  | true =>
   obtain ⟨t1, t2, t3⟩ := tr1 h6
   dsimp only at t3
   have hN : N.length = (partsL s).length + 1 := by rw [t3, trie_length]
   have h256 := partsL_length s (text16 t1)
   have hc : (resCount s).1 = ((partsL s).length : Int) := by unfold resCount; rw [if_pos t1]
   refine Ev.ifT rfl (Ev.ifT (by rw [hc, hN, wrap64_id (by omega) (by omega)]; omega) ?_)
   have key : ∀ d n, n + d = N.length → Ev (fun k => wF29.l0 k (B s) (resSub s).1 (resSub s).2 (resCount s).1 (resLen s).1 (resEnds s).1 (resNext s).1 (B x) (B p) (resOcc x p).1 (n : Int) N) true := by
    intro d
    induction d with
    | zero => intro n h; exact Ev.step (fun k => wF29.l0.eq_2 ..) (Ev.ifF (by omega) j8)
    | succ d ih =>
     intro n h
     refine Ev.step (fun k => wF29.l0.eq_2 ..) (Ev.ifT (by omega) (Ev.ifT (by omega) (Ev.ifT (by rw [t3]; exact trie_end s n (by omega)) ?_)))
     rw [wrap64_succ n (by omega)]
     exact ih (n + 1) (by omega)
   simpa using key N.length 0 (Nat.zero_add _)
 have j5 : Ev (fun k => wF29.j5 k (B s) (resSub s).1 (resSub s).2 (resCount s).1 (resLen s).1 (resEnds s).1 (resNext s).1 (B x) (B p) (resOcc x p).1 false) true :=
  Ev.step (fun k => wF29.j5.eq_2 ..) (Ev.ifF (by simp) (Ev.bind tr5 (Ev.bind tr4 (Ev.ifF (by simp) (Ev.bind (rTrie_same N (by have := tr3; dsimp only at this; omega)) j6)))))
 have j4 : Ev (fun k => wF29.j4 k l0 (B s) (resSub s).1 (resSub s).2 (resCount s).1 (resLen s).1 (resEnds s).1 (resNext s).1 false) true :=
  Ev.step (fun k => wF29.j4.eq_2 ..) (Ev.ifF (by simp) (Ev.bind hxp (Ev.bind oc2 (Ev.bind oc1 (Ev.ifF (by simp) (Ev.bind (rInts_same _ (by omega)) j5))))))
 have j3 : Ev (fun k => wF29.j3 k l0 (B s) (resSub s).1 (resSub s).2 (resCount s).1 (resLen s).1 (resEnds s).1 false) true :=
  Ev.step (fun k => wF29.j3.eq_2 ..) (Ev.ifF (by simp) (Ev.bind ne2 (Ev.bind ne1 (Ev.ifF (by simp) (Ev.ifF (by rw [b5.1, b1.1]; simp) (Ev.bind (rInts_same _ (by omega)) j4))))))
 have j2 : Ev (fun k => wF29.j2 k l0 (B s) (resSub s).1 (resSub s).2 (resCount s).1 (resLen s).1 false) true :=
  Ev.step (fun k => wF29.j2.eq_2 ..) (Ev.ifF (by simp) (Ev.bind en2 (Ev.bind en1 (Ev.ifF (by simp) (Ev.ifF (by rw [b4.1, b1.1]; simp) (Ev.bind (rInts_same _ (by omega)) j3))))))
 have j1 : Ev (fun k => wF29.j1 k l0 (B s) (resSub s).1 (resSub s).2 (resCount s).1 false) true :=
  Ev.step (fun k => wF29.j1.eq_2 ..) (Ev.ifF (by simp) (Ev.bind le2 (Ev.bind le1 (Ev.ifF (by simp) (Ev.ifF (by rw [b3.1, b1.1]; simp) (Ev.bind (rInts_same _ (by omega)) j2))))))
 have j0 : Ev (fun k => wF29.j0 k l0 (B s) (resSub s).1 (resSub s).2 false) true := by
  refine Ev.step (fun k => wF29.j0.eq_2 ..) (Ev.ifF (by simp) (Ev.bind co2 (Ev.bind co1 (Ev.ifT rfl (Ev.ifF (by simp) (Ev.ifF (by rw [b2.1, b1.1]; simp) ?_))))))
  by_cases h : text8 s = true
  ·
   refine Ev.ifT (by rw [b1.1]; exact h) ?_
   rw [show ((resCount s).1 != ((resSub s).1.length : Int)) = false from by rw [b2.2 h]; simp]
   exact j1
  exact Ev.ifF (by rw [b1.1]; exact h) j1
 refine Ev.rounds ?_
 unfold wF29.f wF30.f
 refine Ev.some_bind ?_
 by_cases hb : (l0.length : Int) > 65536
 ·
  exact Ev.ifT (by simpa using hb) (Ev.now _)
 refine Ev.ifF (by simpa using hb) (Ev.bind hs (Ev.bind hsub (Ev.bind hsub2 (Ev.ifF (by simp) ?_))))
 rw [Sub.isText]
 exact Ev.some_bind (Ev.ifF (by rw [b1.1]; simp) (Ev.bind (rTextsS _ (by omega)) j0))
end Go.Proofs.YtblcdgnihmcdpaaGreatDoor.Pure
namespace Go.Proofs.YtblcdgnihmcdpaaGreatDoor.fnSubstrings
open Go.ChangeShapes Go.WideShapes Go.ChangeAt Go.RowKit
open Go.ChangeMaps (open_string shut_string)
def laidL : List (String × DataW Unit) := [("unicode/utf8.acceptRanges", Rows.laid_unicode_utf8_acceptRanges), ("unicode/utf8.first", Rows.laid_unicode_utf8_first)]
theorem own : ownKnob Tryz.prog.godebug = none := by kernel_rfl
theorem laidOut : laidOutB Tryz.prog = true := by kernel_rfl
def IsRow (k : IntKind) (w : World) (a : Option Addr) (len cap : Nat) (zs : List Int) : Prop :=
  (a = none ∧ len = 0 ∧ cap = 0 ∧ zs = []) ∨
  ∃ x, a = some x ∧ len ≤ cap ∧ cap ≤ maxLen ∧ zs.length = cap ∧ (∀ i, i < zs.length → w.cell? (x.add i) = some (.int k (zs.getD i 0))) ∧ ∀ n ∈ zs, (Lit.int k n).wf = true
theorem lifted (os : Os) (started : os.Started) (H : Type) (enc : TypeId × Value → H) :
    ReturnsInHanded {} Tryz.checked os 3 .any (fun w args => (Rows.fnSubstringsSpec.pre enc Tryz.prog Tryz.f3 [] false w args ∧ laidMetH Tryz.prog laidL w) ∧ sizedMet enc Tryz.prog Tryz.f3 (OpenSpec.ofChange Rows.fnSubstringsSpec) false w args) (Rows.fnSubstringsSpec.post enc Tryz.prog Tryz.f3 false true false false) := by
  refine returnsInHanded_of_change_and (C := Tryz.checked) (X := fun w _ => laidMetH Tryz.prog laidL w) (fun _ _ _ hh h => h.of_heap hh) own started (by kernel_rfl) Tryz.func3
    (ChangeSpec.witness_shaped (enc := enc) (C := Tryz.checked) (os := os) (X := fun w _ => laidMetH Tryz.prog laidL w) false (World.laidAll Tryz.prog os laidL) #[.slice none 0 0] 8 (World.laidAll_os _ _ _) (World.shaped_of_ZipB (by kernel_rfl) (by kernel_rfl)) (by kernel_rfl) (by kernel_rfl) (by kernel_rfl)
      (by rw [MakeChecks.laidMetH_plain _ _ _ (by kernel_rfl)]; exact laidMet_laidAll _ (by kernel_rfl) (by kernel_rfl))) ?_
  intro W base args ds gs before hval0 hW hcnd hsz0 hL_ _
  have hsz : (DataW.weightsEach Tryz.prog (Tryz.f3.params.toList ++ Rows.fnSubstringsSpec.plain.varTypes Tryz.prog) (ds ++ gs)).all (· ≤ reachBytes) = true := hsz0
  have hval : ∀ (j : Nat) t v, Tryz.f3.params[j]? = some t → args[j]? = some v → Value.okWide Tryz.prog W .any base t v := hval0
  have hW' := hW
  obtain ⟨p, q, hA0, hV, rfl, hfz, hnd⟩ := hW
  have hA : DataW.TrodAll enc Tryz.prog W 0 (fun _ => true) true Tryz.f3.params.toList args.toList ds p := hA0
  rw [Tryz.params3] at hA hval hsz
  obtain ⟨v0, vs0, d0, ds0, p0, q0, hargs, rfl, rfl, h0, r0⟩ := trodAll_cons hA
  obtain ⟨rfl, rfl, rfl⟩ := trodAll_nil r0
  obtain rfl : args = #[v0] := by cases args; simp_all
  obtain ⟨rfl, rfl⟩ := trodVars_none hV
  obtain ⟨a0, len0, cap0, rfl⟩ := okWide_slice Tryz.underlying22 (hval 0 22 v0 rfl rfl)
  have k0 := h0
  have lt0 : ∀ x ∈ p0, x.block < W.heap.size := by obtain ⟨m, hm⟩ := k0; exact DataW.trod_lt m _ _ _ hm
  obtain ⟨z0, w0⟩ : ∃ zs, IsRow .u8 W a0 len0 cap0 zs := by
    obtain ⟨fuel, hf⟩ := h0
    rcases open_ints Tryz.underlying22 Tryz.underlying5 (by kernel_rfl) hf with ⟨hcs, _⟩ | ⟨x, l, c, zs, hcs, _, hl, hm, hz, _, hcell, hwz⟩
    · simp [Value.cells] at hcs
      obtain ⟨rfl, rfl, rfl⟩ := hcs
      exact ⟨[], .inl ⟨rfl, rfl, rfl, rfl⟩⟩
    · simp [Value.cells] at hcs
      obtain ⟨rfl, rfl, rfl⟩ := hcs
      exact ⟨zs, .inr ⟨_, rfl, hl, hm, by simpa using hz, hcell, hwz⟩⟩
  have y0 : len0 * 1 ≤ 140737488351232 := Go.Proofs.YtblcdgnihmcdpaaGreatDoorW.PrintWords.sized_ints hsz (j := 0) (t := 22) rfl rfl Tryz.underlying22 Tryz.underlying5 (by kernel_rfl) (by kernel_rfl) h0
  clear hA0 hval0 hsz0 hsz
  refine (P.wF29.walk Pure.FnSubstrings a0 len0 cap0 z0 W w0 y0).mono fun e W' ⟨he, bel⟩ => ?_
  subst he
  exact ⟨_, rfl, _, _, _, [], _, [], hW', trodAll_mk1 (shut_bool Tryz.underlying4 _), (trodAll_cons_mk (Below.trod laidOut (by kernel_rfl) (of_decide_eq_true (by kernel_rfl)) k0 bel lt0) trodAll_mk0), rfl, bel.frame _, fun h => by cases h⟩
theorem over : Rows.fnSubstringsRow.holds Tryz.pinned (OpenSpec.ofChange Rows.fnSubstringsSpec) :=
  OpenClaim.holds_of_wide 3 Tryz.f3 rfl rfl rfl rfl rfl rfl rfl ⟨rfl, rfl, rfl, rfl, rfl⟩ rfl rfl rfl rfl rfl (by kernel_rfl) Tryz.func3 (by kernel_rfl)
    (of_decide_eq_true (by kernel_rfl)) (by unfold Func.isWrapper; first | (rw [if_pos (by decide +kernel)]; kernel_rfl) | (rw [if_neg (by decide +kernel)]; exact ⟨rfl, rfl⟩))
    (fun os started H enc _ => lifted os started H enc)
theorem proved : Rows.FnSubstringsSaid := over
end Go.Proofs.YtblcdgnihmcdpaaGreatDoor.fnSubstrings
namespace Go.Proofs.YtblcdgnihmcdpaaGreatDoor
theorem fnSubstrings_holds : Rows.FnSubstringsSaid := fnSubstrings.proved
theorem fnSubstrings_card : Rows.FnSubstringsCardSaid :=
  Claim7.holds_tied_plain_at .later [] [.data, .pinned] true (true, "28a07fa796b5489754123ecca35107e9d4eb9ce22048ff1960d773fc28b8a10c") false
    fnSubstrings_holds (fun _ h => by cases h) (by kernel_rfl) (fun _ h => by cases h) fnSubstrings_row_tie rfl ⟨rfl, rfl⟩ (by kernel_rfl) rfl
    (fun f fn hf hfn => by
      obtain rfl : f = 3 := Option.some.inj ((show Tryz.prog.funcNamed "loop.example/g01243/laws.FnSubstrings" = some 3 by kernel_rfl).symm.trans hf) |>.symm
      obtain rfl : fn = Tryz.f3 := (Option.some.inj (Tryz.func3.symm.trans hfn)).symm
      exact ⟨by kernel_rfl, fun j t ht => by
        rw [Tryz.params3] at ht
        have hm : t ∈ [22] := by simpa using Array.mem_of_getElem? ht
        have hall : ([22].all fun u => !Tryz.prog.wantsStandIn u) = true := by kernel_rfl
        exact (show Tryz.prog.wantsStandIn t = false by simpa using List.all_eq_true.1 hall t hm)⟩)
    (by kernel_rfl)
end Go.Proofs.YtblcdgnihmcdpaaGreatDoor
