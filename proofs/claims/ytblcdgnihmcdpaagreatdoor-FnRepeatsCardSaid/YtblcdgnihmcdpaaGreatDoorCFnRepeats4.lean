/-
  Part 5 of the proof that FnRepeats returns true for every input: the functions that it reaches, each with its contract, and the law.
  Conditions: those of the given statement, no others.
-/
import Derived.Test.YtblcdgnihmcdpaaGreatDoorCFnRepeatsW0
import Derived.Lib.SlicesCompact
import Derived.Lib.IndexMore
import Derived.Test.YtblcdgnihmcdpaaGreatDoorRows
import Derived.WalkKit
import Derived.ProofKit
import Derived.OpenShut
import Derived.ShutString
import Derived.ChangeOld
import Derived.Below
import Derived.SizedLaws
import Derived.Lay
import Derived.LaidOnce
import Derived.SevenTiedAt
import Derived.Test.YtblcdgnihmcdpaaGreatDoorCards
import Derived.Test.YtblcdgnihmcdpaaGreatDoorTie
import Derived.Test.YtblcdgnihmcdpaaGreatDoorCFnRepeats0
import Derived.Test.YtblcdgnihmcdpaaGreatDoorCFnRepeats1
import Derived.Test.YtblcdgnihmcdpaaGreatDoorCFnRepeats2
import Derived.Test.YtblcdgnihmcdpaaGreatDoorCFnRepeats3
set_option linter.unusedVariables false
set_option linter.unusedSimpArgs false
set_option maxHeartbeats 8000000
set_option maxRecDepth 100000
namespace Go.Proofs.YtblcdgnihmcdpaaGreatDoor.P
open Go.RowKit Go.Proofs.YtblcdgnihmcdpaaGreatDoorW.PrintWords Go.Proofs.YtblcdgnihmcdpaaGreatDoorW.PrintLast Go.Proofs.YtblcdgnihmcdpaaGreatDoorW.PrintMore
attribute [local go_sem] max2_int min2_int max_two min_two max_three min_three max_four min_four
def sF37.f (k : Nat) (a0 : ByteArray) : Option (List ByteArray × Bool) := (sF54.f k a0).bind fun t203 => (if t203 = true then ((sF53.f k a0).bind fun t204 => ((sF48.f t204).bind fun t207 => (some (t207, true)))) else (some ((([] : List ByteArray)), false)))
theorem sF37.mono : ∀ a0 k, LeO (sF37.f k a0) (sF37.f (k + 1) a0) := by
 intro a0 k
 unfold sF37.f
 repeat' with_reducible first | exact sF53.mono _ _ | exact sF54.mono _ _ | exact LeO.refl _ | exact LeO.none _ | refine LeO.ite ?_ ?_ | refine LeO.bind ?_ (fun _ => ?_)
theorem sF37.calls (k : Nat) (a0 : ByteArray) (r1 : List ByteArray) (r2 : Bool) (w : World) (h : sF37.f k a0 = some (r1, r2)) :
  Calls Tryz.prog 8 #[.string a0] w fun e w' => ∃ v0_ : Value, e = .returned (.tuple #[v0_, .bool r2]) ∧ Kd.R Kd.string 9 w' w.heap.size (fun _ => True) v0_ r1 ∧ Below w.heap.size w w' := by
 have HB := Aside0.mk (Below.refl w.heap.size w)
 have H : ((sF54.f k a0).bind fun t203 => (if t203 = true then ((sF53.f k a0).bind fun t204 => ((sF48.f t204).bind fun t207 => (some (t207, true)))) else (some ((([] : List ByteArray)), false)))) = some (r1, r2) := h
 clear h
 replace H := Option.bind_eq_some_iff.mp H
 obtain ⟨t203, A20, H⟩ := H
 replace H : (if t203 = true then ((sF53.f k a0).bind fun t204 => ((sF48.f t204).bind fun t207 => (some (t207, true)))) else (some ((([] : List ByteArray)), false))) = some (r1, r2) := H
 have A2 := Aside0.mk A20
 clear A20
 by_cases c3 : t203 = true
 ·
  subst c3
  replace H : ((sF53.f k a0).bind fun t204 => ((sF48.f t204).bind fun t207 => (some (t207, true)))) = some (r1, r2) := by rw [if_pos rfl] at H; exact H
  replace H := Option.bind_eq_some_iff.mp H
  obtain ⟨t204, A40, H⟩ := H
  replace H : ((sF48.f t204).bind fun t207 => (some (t207, true))) = some (r1, r2) := H
  have A4 := Aside0.mk A40
  clear A40
  replace H := Option.bind_eq_some_iff.mp H
  obtain ⟨t207, A50, H⟩ := H
  replace H : (some (t207, true)) = some (r1, r2) := H
  have A5 := Aside0.mk A50
  clear A50
  simp only [Option.some.injEq, Prod.mk.injEq] at H
  obtain ⟨rfl, rfl⟩ := H
  go_enter Tryz.func8, Tryz.ntmps8
  go_wp2_with (first | ((with_reducible refine gate_callee (f := 45) rfl ?_); refine goesL_ (some 5) rfl rfl Tryz.func45 (by kernel_rfl) rfl #[.string a0] rfl (by (try simp only [List.map_toArray, List.map_cons, List.map_nil]); first | done | rfl | (simp only [List.length_drop, List.length_take]; rfl)) ?_; (with_reducible refine (sF54.calls k a0 true _ A2.out).mono ?_); rintro e w' ⟨rfl, ⟨nd, rfl⟩⟩; refine ⟨_, rfl, ?_⟩) | ((with_reducible refine gate_callee (f := 47) rfl ?_); refine goesL_ (some 9) rfl rfl Tryz.func47 (by kernel_rfl) rfl #[.string a0] rfl (by (try simp only [List.map_toArray, List.map_cons, List.map_nil]); first | done | rfl | (simp only [List.length_drop, List.length_take]; rfl)) ?_; (with_reducible refine (sF53.calls k a0 t204 _ A4.out).mono ?_); rintro e w6 ⟨v205, rfl, ho0, hb⟩; refine ⟨_, rfl, ?_⟩; have n0_ := Aside0.mk (Kd.R_lower ho0 (below_size (by repeat (first | (with_reducible first | exact HB.out | apply below_alloc | apply pw_below_drewN | apply below_drew1) | exact HB.out)))); have n1_ := Aside0.mk (below_step (by repeat (first | (with_reducible first | exact HB.out | apply below_alloc | apply pw_below_drewN | apply below_drew1) | exact HB.out)) hb); clear HB; have HO206 := n0_; have HB := n1_; clear n0_ n1_; (try clear hb); (try clear hb2); (try clear hk); (try clear hi); (try clear ho0); obtain ⟨Ao7, co7, eo7⟩ := Kd.R_slice HO206.out; subst eo7) | ((with_reducible refine gate_callee (f := 46) rfl ?_); refine goesL_ (some 10) rfl rfl Tryz.func46 (by kernel_rfl) rfl #[.slice Ao7 t204.length co7] rfl (by (try simp only [List.map_toArray, List.map_cons, List.map_nil]); first | done | rfl | (simp only [List.length_drop, List.length_take]; rfl)) ?_; (with_reducible refine (sF48.calls _ _ t204 t207 _ ?side1 ?side2 A5.out).mono ?_); (case side1 => repeat (first | exact (Kd.R_reads' HO206.out).2.2 | with_reducible first | apply cA_ | apply cN_ | apply cD_)); (case side2 => exact (Kd.R_reads' HO206.out).2.1); rintro e w8 ⟨v208, rfl, ho0, hb⟩; refine ⟨_, rfl, ?_⟩; have n0_ := Aside0.mk (Kd.R_elder' (by (with_reducible repeat (first | apply Kd.R_alloc | apply Kd.R_drewN | apply Kd.R_drew)); exact HO206.out) (Kd.R_base ho0) hb); have n1_ := Aside0.mk (Kd.R_lower (Kd.R_new' ho0 (Kd.R_lt (by (with_reducible repeat (first | apply Kd.R_alloc | apply Kd.R_drewN | apply Kd.R_drew)); exact HO206.out))) (below_size (by repeat (first | (with_reducible first | exact HB.out | apply below_alloc | apply pw_below_drewN | apply below_drew1) | exact HB.out)))); have n2_ := Aside0.mk (below_step (by repeat (first | (with_reducible first | exact HB.out | apply below_alloc | apply pw_below_drewN | apply below_drew1) | exact HB.out)) hb); clear HO206; clear HB; have HO206 := n0_; have HO209 := n1_; have HB := n2_; clear n0_ n1_ n2_; (try clear hb); (try clear hb2); (try clear hk); (try clear hi); (try clear ho0)))
  go_ret2
  exact ⟨_, by first | rfl | (simp [errW_none, errW_some] <;> rfl) | (simp [*, errW_none, errW_some] <;> rfl), by (with_reducible repeat (first | apply Kd.R_alloc | apply Kd.R_drewN | apply Kd.R_drew)); exact Kd.R_mono HO209.out (fun _ hk => trivial), by repeat (first | (with_reducible first | exact HB.out | apply below_alloc | apply pw_below_drewN | apply below_drew1) | exact HB.out)⟩
 replace c3 := Bool.eq_false_iff.mpr c3
 subst c3
 replace H : (some ((([] : List ByteArray)), false)) = some (r1, r2) := by rw [if_neg (show ¬ (false = true) by decide)] at H; exact H
 obtain ⟨y210, hy210⟩ : ∃ y_ : List ByteArray, y_ = (([] : List ByteArray)) := ⟨_, rfl⟩
 replace H : (some (y210, false)) = some (r1, r2) := by (try rw [hy210]); first | with_reducible exact H | with_reducible exact oS_ H | exact H
 have Ny210 := Aside0.mk hy210
 clear hy210
 simp only [Option.some.injEq, Prod.mk.injEq] at H
 obtain ⟨rfl, rfl⟩ := H
 go_enter Tryz.func8, Tryz.ntmps8
 go_wp2_with (first | ((with_reducible refine gate_callee (f := 45) rfl ?_); refine goesL_ (some 5) rfl rfl Tryz.func45 (by kernel_rfl) rfl #[.string a0] rfl (by (try simp only [List.map_toArray, List.map_cons, List.map_nil]); first | done | rfl | (simp only [List.length_drop, List.length_take]; rfl)) ?_; (with_reducible refine (sF54.calls k a0 false _ A2.out).mono ?_); rintro e w' ⟨rfl, ⟨nd, rfl⟩⟩; refine ⟨_, rfl, ?_⟩) | ((with_reducible refine gate_dst (N := 7) rfl ?_); refine Kd.R_lit Kd.string _ 9 ?hg (N := 7) ?hd (xs := ([] : List ByteArray)) (inner := []) (ok := fun _ => True) (okp := fun _ => True) ?hr ?hp (fun _ hk => hk) trivial (Below.refl _ _) (Nat.le_refl _) (by simp) ?_; (case hd => rfl); (case hg => rfl); (case hr => first | (go_simp; done) | (go_simp; rfl)); (case hp => exact (Reps.none _ _)); intro v211 w9 ho10 hb hg_ hnew_; clear hg_ hnew_; (first | rw [← Ny210.out] at ho10 | (simp only [Int.reduceToNat] at ho10; rw [← Ny210.out] at ho10)); have n0_ := Aside0.mk (Kd.R_lower ho10 (below_size (by repeat (first | (with_reducible first | exact HB.out | apply below_alloc | apply pw_below_drewN | apply below_drew1) | exact HB.out)))); have n1_ := Aside0.mk (below_step (by repeat (first | (with_reducible first | exact HB.out | apply below_alloc | apply pw_below_drewN | apply below_drew1) | exact HB.out)) hb); clear HB; have HO212 := n0_; have HB := n1_; clear n0_ n1_; clear hb ho10))
 go_ret2
 exact ⟨_, by first | rfl | (simp [errW_none, errW_some] <;> rfl) | (simp [*, errW_none, errW_some] <;> rfl), by (with_reducible repeat (first | apply Kd.R_alloc | apply Kd.R_drewN | apply Kd.R_drew)); exact HO212.out, by repeat (first | (with_reducible first | exact HB.out | apply below_alloc | apply pw_below_drewN | apply below_drew1) | exact HB.out)⟩
end Go.Proofs.YtblcdgnihmcdpaaGreatDoor.P
namespace Go.Proofs.YtblcdgnihmcdpaaGreatDoor.M
open Go.Lib
theorem keeps_iff (d : Array Txt) (j : Nat) : keeps d j = true ↔ (j = 0 ∨ d[j]! ≠ d[j - 1]!) := by simp [keeps]
theorem mem_compact (zs : List Txt) (y : Txt) : y ∈ compact zs ↔ y ∈ zs := by
 unfold compact compactUpTo
 simp only [List.mem_map, List.mem_filter, List.mem_range]
 constructor
 ·
  rintro ⟨j, ⟨hj, _⟩, rfl⟩
  rw [getElem!_pos zs.toArray j (by simpa using hj)]
  simp
 intro hy
 have hex : ∃ n, ∃ h : n < zs.length, zs[n] = y := by
  obtain ⟨n, h, e⟩ := List.mem_iff_getElem.1 hy
  exact ⟨n, h, e⟩
 have key : ∀ n, (∃ h : n < zs.length, zs[n] = y) → ∃ m, m < zs.length ∧ keeps zs.toArray m = true ∧ zs.toArray[m]! = y := by
  intro n
  induction n with
  | zero => rintro ⟨h, e⟩; exact ⟨0, h, (keeps_iff _ _).2 (.inl rfl), by rw [getElem!_pos zs.toArray 0 (by simpa using h)]; simpa using e⟩
  | succ n ih =>
   rintro ⟨h, e⟩
   have e1 : zs.toArray[n + 1]! = y := by rw [getElem!_pos zs.toArray (n + 1) (by simpa using h)]; simpa using e
   by_cases hk : keeps zs.toArray (n + 1) = true
   ·
    exact ⟨n + 1, h, hk, e1⟩
   have : zs.toArray[n + 1]! = zs.toArray[n]! := by
    by_cases h9 : zs.toArray[n + 1]! = zs.toArray[n]!
    ·
     exact h9
    exact absurd ((keeps_iff _ _).2 (.inr h9)) hk
   refine ih ⟨by omega, ?_⟩
   have h2 : zs.toArray[n]! = zs[n] := by rw [getElem!_pos zs.toArray n (by simp; omega)]; simp
   rw [← h2, ← this, e1]
 obtain ⟨n, h⟩ := hex
 obtain ⟨m, h1, h2, h3⟩ := key n h
 exact ⟨m, ⟨h1, h2⟩, h3⟩
theorem pair_get {zs : List Txt} (h : zs.Pairwise (fun a b => decide (a ≤ b) = true)) {i j : Nat} (hij : i < j) (hj : j < zs.length) : zs.toArray[i]! ≤ zs.toArray[j]! := by
 have := List.pairwise_iff_getElem.1 h i j (by omega) hj hij
 rw [getElem!_pos zs.toArray i (by simp; omega), getElem!_pos zs.toArray j (by simpa using hj)]
 simpa using this
theorem asc_compact {zs : List Txt} (h : zs.Pairwise (fun a b => decide (a ≤ b) = true)) : Asc (compact zs) := by
 unfold Asc compact compactUpTo
 rw [List.pairwise_map]
 have h1 : ((List.range zs.length).filter (keeps zs.toArray)).Pairwise (· < ·) := List.Pairwise.filter _ List.pairwise_lt_range
 refine List.Pairwise.imp_of_mem ?_ h1
 intro a b ha hb hab
 rw [List.mem_filter, List.mem_range] at ha hb
 have hk := (keeps_iff _ _).1 hb.2
 have hne : zs.toArray[b]! ≠ zs.toArray[b - 1]! := by
  rcases hk with h0 | h0
  ·
   omega
  exact h0
 have h2 : zs.toArray[b - 1]! ≤ zs.toArray[b]! := pair_get h (by omega) hb.1
 have h3 : zs.toArray[a]! ≤ zs.toArray[b - 1]! := by
  by_cases e : a = b - 1
  ·
   subst e; exact List.le_refl _
  exact pair_get h (by omega) (by omega)
 have h4 : zs.toArray[b - 1]! < zs.toArray[b]! := by
  by_cases hlt : zs.toArray[b - 1]! < zs.toArray[b]!
  ·
   exact hlt
  exact absurd (List.le_antisymm (List.not_lt.1 hlt) h2) hne
 exact List.lt_of_le_of_lt h3 h4
theorem sorted_compact (l : List Txt) : compact (l.mergeSort fun x y => decide (x ≤ y)) = setL l := by
 have hp : (l.mergeSort fun x y => decide (x ≤ y)).Pairwise (fun a b => decide (a ≤ b) = true) := by
  refine List.pairwise_mergeSort ?_ ?_ l
  ·
   intro a b c h1 h2
   simp only [decide_eq_true_eq] at h1 h2 ⊢
   exact List.le_trans h1 h2
  intro a b
  simp only [Bool.or_eq_true, decide_eq_true_eq]
  exact List.le_total a b
 refine asc_ext _ _ (asc_compact hp) (asc_setL l) fun y => ?_
 rw [mem_compact, List.mem_mergeSort, mem_setL]
end Go.Proofs.YtblcdgnihmcdpaaGreatDoor.M
namespace Go.Proofs.YtblcdgnihmcdpaaGreatDoor.M
open Go.RowKit Go.Proofs.YtblcdgnihmcdpaaGreatDoorW.PrintWords
theorem rdB (l : List Txt) (n : Nat) (h : n < l.length) : rdOf ByteArray.empty (l.map B) (n : Int) = B (l.getD n []) := by
 simp [rdOf, List.getD_eq_getElem?_getD, h]
end Go.Proofs.YtblcdgnihmcdpaaGreatDoor.M
namespace Go.Proofs.YtblcdgnihmcdpaaGreatDoor.L
open Go.RowKit Go.Proofs.YtblcdgnihmcdpaaGreatDoor.P Go.Proofs.YtblcdgnihmcdpaaGreatDoor.M Go.Proofs.YtblcdgnihmcdpaaGreatDoorW.PrintWords Go.Proofs.YtblcdgnihmcdpaaGreatDoorW.PrintLast Go.Proofs.YtblcdgnihmcdpaaGreatDoorW.PrintMore
theorem map_data (l : List Txt) : (l.map B).map (fun x => x.data.toList) = l := by
 rw [List.map_map]
 exact (List.map_congr_left (fun x _ => data_B x)).trans (List.map_id _)
theorem l2Put_eq (l : List Txt) (w : Txt) (h : l.length ≤ 4294967296) (h2 : ∀ x ∈ l, x.length ≤ 4611686018427387900) : sF49.f (l.map B) (B w) = some ((putL l w).map B) := by
 have hall : ((l.map B).all fun x => decide (x.size ≤ 4611686018427387900)) = true := List.all_eq_true.2 fun x hx => by
  obtain ⟨y, hy, rfl⟩ := List.mem_map.1 hx
  simpa using h2 y hy
 unfold sF49.f
 rw [map_data, data_B, if_pos ⟨by simpa using h, hall⟩]
theorem set_eq (l : List Txt) (h : l.length ≤ 4294967296) : iF21.f (l.map B) = some ((setL l).map B) := by
 unfold iF21.f
 rw [if_pos (by simpa using h), map_data, sorted_compact]
 rfl
def text8 (l : List UInt8) : Bool := l.all letterB && decide (l.length ≤ 16)
theorem l8Text_loop (l : List UInt8) (hl : l.length ≤ 4611686018427387903) : ∀ (d n : Nat), n + d = l.length → Ev (fun k => sF54.l0 k (B l) (n : Int)) ((l.drop n).all letterB && decide (l.length ≤ 16)) := by
 have last : ∀ n : Nat, Ev (fun k => sF54.j1 k (B l) (n : Int) false) (decide (l.length ≤ 16)) := by
  intro n
  refine Ev.step (fun k => sF54.j1.eq_2 ..) (Ev.ifF (by simp) ?_)
  have : decide (((B l).size : Int) ≤ 16) = decide (l.length ≤ 16) := by simp; omega
  rw [this]; exact Ev.now _
 intro d
 induction d with
 | zero =>
  intro n hn
  refine Ev.step (fun k => sF54.l0.eq_2 ..) (Ev.ifF (by simp; omega) ?_)
  rw [List.drop_of_length_le (by omega)]; simpa using last n
 | succ d ih =>
  intro n hn
  have h1 : n < l.length := by omega
  refine Ev.step (fun k => sF54.l0.eq_2 ..) (Ev.ifT (by simp; omega) ?_)
  rw [drop_cons_getD 0 h1]
  by_cases h16 : n ≤ 16
  ·
   rw [show decide ((n : Int) ≤ 16) = true from by simp; omega]
   refine Ev.step (fun k => sF54.j1.eq_2 ..) (Ev.ifT rfl (Ev.ifT (by omega) (Ev.ifT (by simp; omega) ?_)))
   simp only [bt_B l n h1]
   by_cases ha : ((l.getD n 0).toNat : Int) < 97
   ·
    refine Ev.ifT ha ?_
    have : letterB (l.getD n 0) = false := by simp only [letterB, decide_eq_false_iff_not]; omega
    simpa only [List.all_cons, this, Bool.false_and] using Ev.now false
   refine Ev.ifF ha ?_
   by_cases hz : ((l.getD n 0).toNat : Int) > 122
   ·
    refine Ev.ifT hz ?_
    have : letterB (l.getD n 0) = false := by simp only [letterB, decide_eq_false_iff_not]; omega
    simpa only [List.all_cons, this, Bool.false_and] using Ev.now false
   refine Ev.ifF hz ?_
   have : letterB (l.getD n 0) = true := by simp only [letterB, decide_eq_true_eq]; omega
   simpa only [wrap64_succ n (by omega), List.all_cons, this, Bool.true_and] using ih (n + 1) (by omega)
  rw [show decide ((n : Int) ≤ 16) = false from by simp; omega]
  have : ((l.getD n 0 :: l.drop (n + 1)).all letterB && decide (l.length ≤ 16)) = decide (l.length ≤ 16) := by
   have : decide (l.length ≤ 16) = false := by simp; omega
   rw [this]; simp
  rw [this]; exact last n
theorem l8Text_ev (l : List UInt8) (hl : l.length ≤ 4611686018427387903) : Ev (fun k => sF54.f k (B l)) (text8 l) := by
 simpa [sF54.f, text8] using l8Text_loop l hl l.length 0 (by omega)
theorem areLetters_eq (l : List UInt8) (hl : l.length ≤ 9223372036854775807) : iF15.f (B l) = some (l.all letterB) := by
 unfold iF15.f
 rw [if_pos (by simpa using hl), data_B]
 rfl
theorem isText_eq (l : List UInt8) : iF17.f (B l) = some (text8 l) := by
 unfold iF17.f text8
 by_cases h : l.length ≤ 16
 ·
  rw [if_pos (by simp; omega), areLetters_eq l (by omega)]; simp [h]
 rw [if_neg (by simp; omega)]; simp [h]
def colsL (s : Txt) (i : Nat) : Nat → Nat → List Txt
 | _, 0 => []
 | j, d + 1 => (s.drop i).take (j - i) :: colsL s i (j + 1) d
def rowsL (s : Txt) : Nat → Nat → List Txt
 | _, 0 => []
 | i, d + 1 => colsL s i (i + 1) (s.length - i) ++ rowsL s (i + 1) d
def rawL (s : Txt) : List Txt := rowsL s 0 s.length
def partsL (s : Txt) : List Txt := setL (rawL s)
theorem colsL_length (s : Txt) (i : Nat) : ∀ d j, (colsL s i j d).length = d
 | 0, _ => rfl
 | d + 1, j => by simp [colsL, colsL_length s i d (j + 1)]
theorem rowsL_length (s : Txt) : ∀ d i, i + d = s.length → (rowsL s i d).length ≤ d * s.length
 | 0, _, _ => by simp [rowsL]
 | d + 1, i, h => by
  have := rowsL_length s d (i + 1) (by omega)
  simp only [rowsL, List.length_append, colsL_length, Nat.succ_mul]; omega
theorem rawL_length (s : Txt) (h : s.length ≤ 16) : (rawL s).length ≤ 256 := by
 have h1 := rowsL_length s s.length 0 (by omega)
 have h2 : s.length * s.length ≤ 16 * 16 := Nat.mul_le_mul h h
 unfold rawL; omega
theorem mem_colsL (s : Txt) (i : Nat) : ∀ d j x, x ∈ colsL s i j d → x.length ≤ s.length ∧ (i < j → j + d ≤ s.length + 1 → 0 < x.length) ∧ ∃ m, j ≤ m ∧ m < j + d ∧ x = (s.drop i).take (m - i)
 | 0, _, _, h => by simp [colsL] at h
 | d + 1, j, x, h => by
  rcases List.mem_cons.1 h with rfl | h
  ·
   exact ⟨by simp; omega, fun h1 h2 => by simp; omega, j, Nat.le_refl _, by omega, rfl⟩
  obtain ⟨h1, h2, m, h3, h4, h5⟩ := mem_colsL s i d (j + 1) x h
  exact ⟨h1, fun h6 h7 => h2 (by omega) (by omega), m, by omega, by omega, h5⟩
theorem mem_rowsL (s : Txt) : ∀ d i x, i + d = s.length → x ∈ rowsL s i d → x.length ≤ s.length ∧ 0 < x.length
 | 0, _, _, _, h => by simp [rowsL] at h
 | d + 1, i, x, hd, h => by
  rcases List.mem_append.1 h with h | h
  ·
   obtain ⟨h1, h2, _⟩ := mem_colsL s i _ _ x h
   exact ⟨h1, h2 (by omega) (by omega)⟩
  exact mem_rowsL s d (i + 1) x (by omega) h
theorem mem_partsL {s x : Txt} (h : x ∈ partsL s) : x.length ≤ s.length ∧ 0 < x.length := mem_rowsL s _ 0 x (by omega) ((mem_setL _ _).1 h)
theorem foldl_putL_length : ∀ (l acc : List Txt), (l.foldl putL acc).length ≤ acc.length + l.length
 | [], _ => Nat.le_refl _
 | x :: l, acc => by
  have h1 := foldl_putL_length l (putL acc x)
  have h2 := putL_length_le acc x
  rw [List.foldl_cons, List.length_cons]; omega
theorem partsL_length (s : Txt) (h : s.length ≤ 16) : (partsL s).length ≤ 256 := by
 have h1 := foldl_putL_length (rawL s) []
 have h2 := rawL_length s h
 unfold partsL setL; simp at h1; omega
theorem piece_B (s : Txt) (i j : Nat) : (B s).extract (i : Int).toNat (j : Int).toNat = B ((s.drop i).take (j - i)) := by simp
theorem impl_cols (s : Txt) (hs : s.length ≤ 16) (i : Nat) (hi : i < s.length) (r : List ByteArray) (acc2 : List Txt) (hr : Ev (fun k => iF22.l0 k (B s) (acc2.map B) (s.length : Int) ((i + 1 : Nat) : Int)) r) :
  ∀ d j acc, i < j → j + d = s.length + 1 → acc ++ colsL s i j d = acc2 → acc2.length ≤ 4000 → Ev (fun k => iF22.l1 k (B s) (acc.map B) (i : Int) (j : Int) (s.length : Int) (i : Int)) r := by
 intro d
 induction d with
 | zero =>
  intro j acc h1 h2 h3 h4
  simp only [colsL, List.append_nil] at h3
  subst h3
  refine Ev.step (fun k => iF22.l1.eq_2 ..) (Ev.ifF (by simp; omega) ?_)
  simpa only [wrap64_succ i (by omega)] using hr
 | succ d ih =>
  intro j acc h1 h2 h3 h4
  have hl : acc.length ≤ 4000 := by rw [← h3] at h4; simp at h4; omega
  refine Ev.step (fun k => iF22.l1.eq_2 ..) (Ev.ifT (by simp; omega) (Ev.ifT (by omega) (Ev.ifT (by omega) (Ev.ifT (by simp; omega) ?_))))
  rw [piece_B]
  have := ih (j + 1) (acc ++ [(s.drop i).take (j - i)]) (by omega) (by omega) (by rw [← h3]; simp [colsL]) h4
  simpa only [wrap64_succ j (by omega), List.map_append, List.map_cons, List.map_nil] using this
theorem impl_rows (s : Txt) (hs : s.length ≤ 16) (all : List Txt) (hall : all.length ≤ 4000) : ∀ d i acc, i + d = s.length → acc ++ rowsL s i d = all → Ev (fun k => iF22.l0 k (B s) (acc.map B) (s.length : Int) (i : Int)) ((setL all).map B) := by
 intro d
 induction d with
 | zero =>
  intro i acc h1 h2
  simp only [rowsL, List.append_nil] at h2
  subst h2
  refine Ev.step (fun k => iF22.l0.eq_2 ..) (Ev.ifF (by omega) ?_)
  rw [set_eq acc (by omega)]
  exact Ev.some_bind (Ev.now _)
 | succ d ih =>
  intro i acc h1 h2
  refine Ev.step (fun k => iF22.l0.eq_2 ..) (Ev.ifT (by omega) ?_)
  have h3 : (acc ++ colsL s i (i + 1) (s.length - i)) ++ rowsL s (i + 1) d = all := by rw [← h2]; simp [rowsL]
  have hr := ih (i + 1) _ (by omega) h3
  have := impl_cols s hs i (by omega) _ _ hr (s.length - i) (i + 1) acc (by omega) (by omega) rfl (by rw [← h3] at hall; simp at hall ⊢; omega)
  simpa only [wrap64_succ i (by omega)] using this
theorem substrings_ev (s : Txt) (hs : s.length ≤ 16) : Ev (fun k => iF22.f k (B s)) ((partsL s).map B) := by
 have := impl_rows s hs (rawL s) (by have := rawL_length s hs; omega) s.length 0 [] (by omega) rfl
 simpa [iF22.f, partsL] using this
theorem spec_cols (s : Txt) (hs : s.length ≤ 16) (i : Nat) (hi : i < s.length) (r : List ByteArray) (acc2 : List Txt) (hr : Ev (fun k => sF53.l0 k (B s) (acc2.map B) ((i + 1 : Nat) : Int)) r) :
  ∀ d j acc, i < j → j + d = s.length + 1 → (colsL s i j d).foldl putL acc = acc2 → acc.length + d ≤ 4000 → (∀ x ∈ acc, x.length ≤ 16) → Ev (fun k => sF53.l1 k (B s) (acc.map B) (i : Int) (j : Int)) r := by
 intro d
 induction d with
 | zero =>
  intro j acc h1 h2 h3 h4 h5
  simp only [colsL, List.foldl_nil] at h3
  subst h3
  refine Ev.step (fun k => sF53.l1.eq_2 ..) (Ev.ifF (by simp; omega) ?_)
  simpa only [wrap64_succ i (by omega)] using hr
 | succ d ih =>
  intro j acc h1 h2 h3 h4 h5
  refine Ev.step (fun k => sF53.l1.eq_2 ..) (Ev.ifT (by simp; omega) (Ev.ifT (by omega) (Ev.ifT (by omega) ?_)))
  rw [piece_B, l2Put_eq acc _ (by omega) (fun x hx => by have := h5 x hx; omega)]
  refine Ev.some_bind ?_
  have h6 := putL_length_le acc ((s.drop i).take (j - i))
  have := ih (j + 1) (putL acc ((s.drop i).take (j - i))) (by omega) (by omega) (by rw [← h3]; rfl) (by omega) (fun x hx => by
   rcases (mem_putL _ _ _).1 hx with rfl | hx
   ·
    simp; omega
   exact h5 x hx)
  simpa only [wrap64_succ j (by omega)] using this
theorem spec_rows (s : Txt) (hs : s.length ≤ 16) (all : List Txt) : ∀ d i acc, i + d = s.length → (rowsL s i d).foldl putL acc = all → acc.length + d * s.length ≤ 4000 → (∀ x ∈ acc, x.length ≤ 16) → Ev (fun k => sF53.l0 k (B s) (acc.map B) (i : Int)) (all.map B) := by
 intro d
 induction d with
 | zero =>
  intro i acc h1 h2 h3 h4
  simp only [rowsL, List.foldl_nil] at h2
  subst h2
  exact Ev.step (fun k => sF53.l0.eq_2 ..) (Ev.ifF (by simp; omega) (Ev.now _))
 | succ d ih =>
  intro i acc h1 h2 h3 h4
  rw [Nat.succ_mul] at h3
  refine Ev.step (fun k => sF53.l0.eq_2 ..) (Ev.ifT (by simp; omega) ?_)
  have h5 : (rowsL s (i + 1) d).foldl putL ((colsL s i (i + 1) (s.length - i)).foldl putL acc) = all := by rw [← h2, rowsL, List.foldl_append]
  have h6 := foldl_putL_length (colsL s i (i + 1) (s.length - i)) acc
  rw [colsL_length] at h6
  have hr := ih (i + 1) _ (by omega) h5 (by omega) (fun x hx => by
   rcases (foldl_putL_mem _ _ _).1 hx with hx | hx
   ·
    have := (mem_colsL s i _ _ x hx).1; omega
   exact h4 x hx)
  have := spec_cols s hs i (by omega) _ _ hr (s.length - i) (i + 1) acc (by omega) (by omega) rfl (by omega) h4
  simpa only [wrap64_succ i (by omega)] using this
theorem l8Parts_ev (s : Txt) (hs : s.length ≤ 16) : Ev (fun k => sF53.f k (B s)) ((partsL s).map B) := by
 have h2 : s.length * s.length ≤ 16 * 16 := Nat.mul_le_mul hs hs
 have := spec_rows s hs (partsL s) s.length 0 [] (by omega) rfl (by simp; omega) (by simp)
 simpa [sF53.f] using this
end Go.Proofs.YtblcdgnihmcdpaaGreatDoor.L
namespace Go.Proofs.YtblcdgnihmcdpaaGreatDoor.M
def hasPre (s p : List UInt8) : Bool := s.take p.length == p
end Go.Proofs.YtblcdgnihmcdpaaGreatDoor.M
namespace Go.Proofs.YtblcdgnihmcdpaaGreatDoor.L
open Go.RowKit Go.Proofs.YtblcdgnihmcdpaaGreatDoor.P Go.Proofs.YtblcdgnihmcdpaaGreatDoor.M Go.Proofs.YtblcdgnihmcdpaaGreatDoorW.PrintWords Go.Proofs.YtblcdgnihmcdpaaGreatDoorW.PrintLast Go.Proofs.YtblcdgnihmcdpaaGreatDoorW.PrintMore
theorem HasPrefix_eq (s p : List UInt8) (hs : s.length ≤ 4611686018427387900) (hp : p.length ≤ 4611686018427387900) : xF57.f (B s) (B p) = some (hasPre s p) := by
 unfold xF57.f xF58.f hasPre
 by_cases h : p.length ≤ s.length
 ·
  rw [if_pos (by simp; omega), if_pos (by omega), if_pos (by simp; omega)]; simp
 rw [if_neg (by simp; omega)]
 have : (s.take p.length == p) = false := by
  simp only [beq_eq_false_iff_ne]
  intro e
  have := congrArg List.length e
  simp at this; omega
 simp [this]
def occFrom (s p : List UInt8) : Nat → Nat → List Int
 | _, 0 => []
 | n, d + 1 => (if hasPre (s.drop n) p = true then [(n : Int)] else []) ++ occFrom s p (n + 1) d
def occM (s p : List UInt8) : List Int := occFrom s p 0 (s.length + 1)
theorem hasPre_short {s p : List UInt8} (h : s.length < p.length) : hasPre s p = false := by
 simp only [hasPre, beq_eq_false_iff_ne]
 intro e
 have := congrArg List.length e
 simp at this; omega
theorem occFrom_none (s p : List UInt8) : ∀ d n, n + d = s.length + 1 → s.length < n + p.length → occFrom s p n d = [] := by
 intro d
 induction d with
 | zero => intro n _ _; rfl
 | succ d ih => intro n hd h; rw [occFrom, hasPre_short (by simp; omega), ih (n + 1) (by omega) (by omega)]; rfl
theorem occurs_loop (s p : List UInt8) (hs : s.length ≤ 1048576) (hp : p.length ≤ 1048576) : ∀ (d n : Nat) (acc : List Int), n + d = s.length + 1 → acc.length ≤ n → Ev (fun k => iF20.l0 k (B s) (B p) acc ((s.length : Int) + 1) (n : Int)) (acc ++ occFrom s p n d) := by
 intro d
 induction d with
 | zero =>
  intro n acc h _
  refine Ev.step (fun k => iF20.l0.eq_2 ..) (Ev.ifF (by omega) ?_)
  simpa [occFrom] using Ev.now acc
 | succ d ih =>
  intro n acc h ha
  refine Ev.step (fun k => iF20.l0.eq_2 ..) (Ev.ifT (by omega) (Ev.ifT (by omega) (Ev.ifT (by simp; omega) ?_)))
  have he : (B s).extract (n : Int).toNat (B s).size = B (s.drop n) := by
   simp only [Int.toNat_natCast, extract_B, size_B]
   rw [List.take_of_length_le (by simp)]
  simp only [he, HasPrefix_eq (s.drop n) p (by simp; omega) (by omega)]
  refine Ev.some_bind ?_
  rw [occFrom]
  by_cases hh : hasPre (s.drop n) p = true
  ·
   refine Ev.ifT hh (Ev.ifT (by omega) ?_)
   rw [if_pos hh, ← List.append_assoc]
   simpa only [wrap64_succ n (by omega)] using ih (n + 1) (acc ++ [(n : Int)]) (by omega) (by simp; omega)
  refine Ev.ifF hh ?_
  rw [if_neg hh, List.nil_append]
  simpa only [wrap64_succ n (by omega)] using ih (n + 1) acc (by omega) (by omega)
theorem occurs_ev (s p : List UInt8) (hs : s.length ≤ 1048576) (hp : p.length ≤ 1048576) : Ev (fun k => iF20.f k (B s) (B p)) (occM s p) := by
 have := occurs_loop s p hs hp (s.length + 1) 0 [] (by omega) (by simp)
 unfold iF20.f
 rw [show wrap64 (((B s).size : Int) + 1) = (s.length : Int) + 1 from by rw [wrap64_id (by simp; omega) (by simp; omega)]; simp]
 simpa [occM] using this
theorem l8At_loop (s p : List UInt8) (hs : s.length ≤ 1048576) (hp : p.length ≤ 1048576) : ∀ (d n : Nat) (acc : List Int), n + d = s.length + 1 → acc.length ≤ n → Ev (fun k => sF52.l0 k (B s) (B p) acc (n : Int)) (acc ++ occFrom s p n d) := by
 intro d
 induction d with
 | zero =>
  intro n acc h ha
  have hw : wrap64 ((n : Int) + ((B p).size : Int)) = (n : Int) + (p.length : Int) := by rw [wrap64_id (by simp; omega) (by simp; omega)]; simp
  refine Ev.step (fun k => sF52.l0.eq_2 ..) ?_
  simp only [hw]
  refine Ev.ifF (by simp; omega) ?_
  simpa [occFrom] using Ev.now acc
 | succ d ih =>
  intro n acc h ha
  have hw : wrap64 ((n : Int) + ((B p).size : Int)) = (n : Int) + (p.length : Int) := by rw [wrap64_id (by simp; omega) (by simp; omega)]; simp
  refine Ev.step (fun k => sF52.l0.eq_2 ..) ?_
  simp only [hw]
  by_cases hlen : n + p.length ≤ s.length
  ·
   refine Ev.ifT (by simp; omega) (Ev.ifT (by omega) (Ev.ifT (by omega) ?_))
   have he : ((B s).extract (n : Int).toNat ((n : Int) + (p.length : Int)).toNat).toList = (s.drop n).take p.length := by
    rw [show ((n : Int) + (p.length : Int)).toNat = n + p.length from by omega]
    simp
   simp only [he, toList_B]
   rw [occFrom]
   by_cases hh : (s.drop n).take p.length = p
   ·
    have hh2 : hasPre (s.drop n) p = true := by simp [hasPre, hh]
    refine Ev.ifT hh (Ev.ifT (by omega) ?_)
    rw [if_pos hh2, ← List.append_assoc]
    simpa only [wrap64_succ n (by omega)] using ih (n + 1) (acc ++ [(n : Int)]) (by omega) (by simp; omega)
   have hh2 : ¬ hasPre (s.drop n) p = true := by simp [hasPre, hh]
   refine Ev.ifF hh ?_
   rw [if_neg hh2, List.nil_append]
   simpa only [wrap64_succ n (by omega)] using ih (n + 1) acc (by omega) (by omega)
  refine Ev.ifF (by simp; omega) ?_
  rw [occFrom_none s p _ n (by omega) (by omega)]
  simpa using Ev.now acc
theorem l8At_ev (s p : List UInt8) (hs : s.length ≤ 1048576) (hp : p.length ≤ 1048576) : Ev (fun k => sF52.f k (B s) (B p)) (occM s p) := by
 simpa [occM, sF52.f] using l8At_loop s p hs hp (s.length + 1) 0 [] (by omega) (by simp)
theorem hasPre_iff (l p : Txt) : hasPre l p = true ↔ l.take p.length = p := by simp [hasPre]
theorem mem_occFrom (s p : Txt) : ∀ d n z, z ∈ occFrom s p n d ↔ ∃ i : Nat, n ≤ i ∧ i < n + d ∧ hasPre (s.drop i) p = true ∧ z = (i : Int)
 | 0, n, z => by
  constructor
  ·
   intro h; simp [occFrom] at h
  rintro ⟨i, h1, h2, _⟩; omega
 | d + 1, n, z => by
  rw [occFrom, List.mem_append, mem_occFrom s p d (n + 1) z]
  constructor
  ·
   rintro (h | ⟨i, h1, h2, h3, h4⟩)
   ·
    by_cases hh : hasPre (s.drop n) p = true
    ·
     rw [if_pos hh] at h
     exact ⟨n, Nat.le_refl _, by omega, hh, List.mem_singleton.1 h⟩
    rw [if_neg hh] at h; simp at h
   exact ⟨i, by omega, by omega, h3, h4⟩
  rintro ⟨i, h1, h2, h3, h4⟩
  by_cases hi : i = n
  ·
   subst hi; left; rw [if_pos h3]; exact List.mem_singleton.2 h4
  right; exact ⟨i, by omega, by omega, h3, h4⟩
theorem mem_occM (s p : Txt) (z : Int) : z ∈ occM s p ↔ ∃ i : Nat, i ≤ s.length ∧ hasPre (s.drop i) p = true ∧ z = (i : Int) := by
 unfold occM
 rw [mem_occFrom]
 constructor
 ·
  rintro ⟨i, _, h2, h3, h4⟩; exact ⟨i, by omega, h3, h4⟩
 rintro ⟨i, h2, h3, h4⟩; exact ⟨i, by omega, by omega, h3, h4⟩
theorem occ_self (s : Txt) (h : s ≠ []) : (occM s s).length = 1 := by
 have hl : 0 < s.length := List.length_pos_iff.2 h
 unfold occM
 rw [occFrom, if_pos (by rw [hasPre_iff]; simp), occFrom_none s s s.length (0 + 1) (by omega) (by omega)]
 rfl
theorem mem_colsL_iff (s : Txt) (i : Nat) : ∀ d j x, x ∈ colsL s i j d ↔ ∃ m, j ≤ m ∧ m < j + d ∧ x = (s.drop i).take (m - i)
 | 0, j, x => by
  constructor
  ·
   intro h; simp [colsL] at h
  rintro ⟨m, h1, h2, _⟩; omega
 | d + 1, j, x => by
  rw [colsL, List.mem_cons, mem_colsL_iff s i d (j + 1) x]
  constructor
  ·
   rintro (h | ⟨m, h1, h2, h3⟩)
   ·
    exact ⟨j, Nat.le_refl _, by omega, h⟩
   exact ⟨m, by omega, by omega, h3⟩
  rintro ⟨m, h1, h2, h3⟩
  by_cases hm : m = j
  ·
   subst hm; exact .inl h3
  exact .inr ⟨m, by omega, by omega, h3⟩
theorem mem_rowsL_iff (s : Txt) : ∀ d i x, x ∈ rowsL s i d ↔ ∃ a m, i ≤ a ∧ a < i + d ∧ a + 1 ≤ m ∧ m < a + 1 + (s.length - a) ∧ x = (s.drop a).take (m - a)
 | 0, i, x => by
  constructor
  ·
   intro h; simp [rowsL] at h
  rintro ⟨a, m, h1, h2, _⟩; omega
 | d + 1, i, x => by
  rw [rowsL, List.mem_append, mem_rowsL_iff s d (i + 1) x, mem_colsL_iff]
  constructor
  ·
   rintro (⟨m, h1, h2, h3⟩ | ⟨a, m, h1, h2, h3⟩)
   ·
    exact ⟨i, m, Nat.le_refl _, by omega, h1, h2, h3⟩
   exact ⟨a, m, by omega, by omega, h3⟩
  rintro ⟨a, m, h1, h2, h3, h4, h5⟩
  by_cases ha : a = i
  ·
   subst ha; exact .inl ⟨m, h3, h4, h5⟩
  exact .inr ⟨a, m, by omega, by omega, h3, h4, h5⟩
theorem mem_parts_iff (s x : Txt) : x ∈ partsL s ↔ x ≠ [] ∧ ∃ i, hasPre (s.drop i) x = true := by
 unfold partsL rawL
 rw [mem_setL, mem_rowsL_iff]
 constructor
 ·
  rintro ⟨a, m, h1, h2, h3, h4, rfl⟩
  refine ⟨fun e => ?_, a, ?_⟩
  ·
   have := congrArg List.length e
   simp at this; omega
  rw [hasPre_iff, List.length_take, List.length_drop, Nat.min_eq_left (by omega)]
 rintro ⟨h1, i, h2⟩
 rw [hasPre_iff] at h2
 have hl : 0 < x.length := List.length_pos_iff.2 h1
 have h3 := congrArg List.length h2
 rw [List.length_take, List.length_drop] at h3
 exact ⟨i, i + x.length, by omega, by omega, by omega, by omega, by rw [show i + x.length - i = x.length from by omega]; exact h2.symm⟩
theorem parts_occ {s x : Txt} (h : x ∈ partsL s) : 0 < (occM s x).length := by
 obtain ⟨h1, i, h2⟩ := (mem_parts_iff s x).1 h
 have hl : 0 < x.length := List.length_pos_iff.2 h1
 have h3 := congrArg List.length ((hasPre_iff _ _).1 h2)
 rw [List.length_take, List.length_drop] at h3
 exact List.length_pos_of_mem ((mem_occM s x (i : Int)).2 ⟨i, by omega, h2, rfl⟩)
theorem no_occ {s x : Txt} (hx : x ≠ []) (h : x ∉ partsL s) : occM s x = [] := by
 refine List.eq_nil_iff_forall_not_mem.2 fun z hz => ?_
 obtain ⟨i, _, h2, _⟩ := (mem_occM s x z).1 hz
 exact h ((mem_parts_iff s x).2 ⟨hx, i, h2⟩)
theorem occ_part {s x : Txt} (hx : x ≠ []) (h : 0 < (occM s x).length) : x ∈ partsL s := by
 by_cases hp : x ∈ partsL s
 ·
  exact hp
 rw [no_occ hx hp] at h; simp at h
theorem part_text {s x : Txt} (h : text8 s = true) (hx : x ∈ partsL s) : text8 x = true := by
 unfold text8 at h ⊢
 rw [Bool.and_eq_true, decide_eq_true_eq] at h ⊢
 obtain ⟨h1, i, h2⟩ := (mem_parts_iff s x).1 hx
 refine ⟨List.all_eq_true.2 fun c hc => List.all_eq_true.1 h.1 c ?_, Nat.le_trans (mem_partsL hx).1 h.2⟩
 rw [← (hasPre_iff _ _).1 h2] at hc
 exact List.mem_of_mem_drop (List.mem_of_mem_take hc)
theorem self_mem {s : Txt} (h : s ≠ []) : s ∈ partsL s := (mem_parts_iff s s).2 ⟨h, 0, by rw [hasPre_iff]; simp⟩
theorem nodup_sub_len {α : Type} [DecidableEq α] : ∀ (l m : List α), l.Nodup → (∀ x ∈ l, x ∈ m) → l.length ≤ m.length
 | [], _, _, _ => Nat.zero_le _
 | x :: l, m, hn, h => by
  rw [List.nodup_cons] at hn
  have hx : x ∈ m := h x (by simp)
  have h1 := nodup_sub_len l (m.erase x) hn.2 (fun y hy => (List.mem_erase_of_ne (fun e => hn.1 (by rw [← e]; exact hy))).2 (h y (by simp [hy])))
  rw [List.length_erase_of_mem hx] at h1
  have h2 : 0 < m.length := List.length_pos_of_mem hx
  simp; omega
theorem asc_nodup {l : List Txt} (h : Asc l) : l.Nodup := by
 unfold List.Nodup
 exact List.Pairwise.imp (fun {a b} (hab : a < b) (e : a = b) => txt_irrefl b (by rw [e] at hab; exact hab)) h
theorem ev_all (f : Nat → ByteArray → Option Bool) (q : Txt → Bool) : ∀ (l : List Txt), (∀ x ∈ l, Ev (fun k => f k (B x)) (q x)) → ∃ K, ∀ k, K ≤ k → ∀ x ∈ l, f k (B x) = some (q x)
 | [], _ => ⟨0, fun _ _ x hx => absurd hx (by simp)⟩
 | y :: l, h => by
  obtain ⟨K1, h1⟩ := h y (by simp)
  obtain ⟨K2, h2⟩ := ev_all f q l (fun x hx => h x (by simp [hx]))
  refine ⟨K1 + K2, fun k hk x hx => ?_⟩
  rcases List.mem_cons.1 hx with rfl | hx
  ·
   exact h1 k (by omega)
  exact h2 k (by omega) x hx
theorem filt_ev (f : Nat → ByteArray → Option Bool) (q : Txt → Bool) (l : List Txt) (h : ∀ x ∈ l, Ev (fun k => f k (B x)) (q x)) : Ev (fun k => filt (f k) (l.map B)) ((l.filter q).map B) := by
 obtain ⟨K, hK⟩ := ev_all f q l h
 refine ⟨K, fun k hk => ?_⟩
 show filt (f k) (l.map B) = _
 rw [filt_of (fun b => q b.data.toList) (fun x hx => ?_), List.filter_map]
 ·
  rw [List.filter_congr (q := q) (fun x _ => by simp)]
 obtain ⟨y, hy, rfl⟩ := List.mem_map.1 hx
 rw [hK k hk y hy, data_B]
theorem chosen_ev (s : Txt) (h1 : text8 s = true) (h16 : s.length ≤ 16) (f : Nat → ByteArray → Option Bool) (q : Txt → Bool) (h : ∀ x ∈ partsL s, Ev (fun k => f k (B x)) (q x)) :
  Ev (fun k => xF0.list (iF17.f (B s)) (iF22.f k (B s)) (f k)) (((partsL s).filter q).map B, true) := by
 have h256 := partsL_length s h16
 unfold xF0.list
 rw [isText_eq, h1]
 exact Ev.some_bind (Ev.ifT rfl (Ev.bind (substrings_ev s h16) (Ev.ifT (by simp; omega) (Ev.bind (filt_ev f q _ h) (Ev.now _)))))
def backFrom (x : Txt) : Nat → Nat → Bool
 | _, 0 => true
 | n, d + 1 => if ((x.getD n 0).toNat : Int) = ((x.getD (x.length - 1 - n) 0).toNat : Int) then backFrom x (n + 1) d else false
def qTurnsBack (x : Txt) : Bool := backFrom x 0 x.length
theorem other (x : Txt) (n : Nat) (h : x.length ≤ 16) (hn : n < x.length) : wrap64 (wrap64 ((x.length : Int) - 1) - (n : Int)) = ((x.length - 1 - n : Nat) : Int) := by
 rw [wrap64_id (x := (x.length : Int) - 1) (by omega) (by omega), wrap64_id (by omega) (by omega)]; omega
theorem turned_loop (x : Txt) (h : x.length ≤ 16) : ∀ d n, n + d = x.length → Ev (fun k => sF55.l0 k (B x) (n : Int)) (backFrom x n d) := by
 intro d
 induction d with
 | zero => intro n hn; exact Ev.step (fun k => sF55.l0.eq_2 ..) (Ev.ifF (by simp; omega) (Ev.now _))
 | succ d ih =>
  intro n hn
  refine Ev.step (fun k => sF55.l0.eq_2 ..) ?_
  simp only [size_B, other x n h (by omega)]
  refine Ev.ifT (by omega) (Ev.ifT (by omega) (Ev.ifT (by omega) (Ev.ifT (by omega) ?_)))
  simp only [bt_B x n (by omega), bt_B x (x.length - 1 - n) (by omega)]
  rw [backFrom]
  by_cases hc : ((x.getD n 0).toNat : Int) = ((x.getD (x.length - 1 - n) 0).toNat : Int)
  ·
   refine Ev.ifT hc ?_
   rw [if_pos hc]
   simpa only [wrap64_succ n (by omega)] using ih (n + 1) (by omega)
  refine Ev.ifF hc ?_
  rw [if_neg hc]; exact Ev.now _
theorem turned_ev (x : Txt) (h : x.length ≤ 16) : Ev (fun k => sF55.f k (B x)) (qTurnsBack x) := by
 simpa [sF55.f, qTurnsBack] using turned_loop x h x.length 0 (by omega)
theorem back_loop (x : Txt) (h : x.length ≤ 16) : ∀ d n, n + d = x.length → Ev (fun k => iF14.l0 k (B x) (x.length : Int) (n : Int)) (backFrom x n d) := by
 intro d
 induction d with
 | zero => intro n hn; exact Ev.step (fun k => iF14.l0.eq_2 ..) (Ev.ifF (by omega) (Ev.now _))
 | succ d ih =>
  intro n hn
  refine Ev.step (fun k => iF14.l0.eq_2 ..) ?_
  simp only [size_B, other x n h (by omega)]
  refine Ev.ifT (by omega) (Ev.ifT (by omega) (Ev.ifT (by omega) (Ev.ifT (by omega) (Ev.ifT (by omega) ?_))))
  simp only [bt_B x n (by omega), bt_B x (x.length - 1 - n) (by omega)]
  rw [backFrom]
  by_cases hc : ((x.getD n 0).toNat : Int) = ((x.getD (x.length - 1 - n) 0).toNat : Int)
  ·
   refine Ev.ifT hc ?_
   rw [if_pos hc]
   simpa only [wrap64_succ n (by omega)] using ih (n + 1) (by omega)
  refine Ev.ifF hc ?_
  rw [if_neg hc]; exact Ev.now _
theorem back_ev (x : Txt) (h : x.length ≤ 16) : Ev (fun k => iF14.f k (B x)) (qTurnsBack x) := by
 simpa [iF14.f, qTurnsBack] using back_loop x h x.length 0 (by omega)
theorem spec_TurnsBack_loop (l : List Txt) (hl : l.length ≤ 1000000) (hx : ∀ x ∈ l, x.length ≤ 16) : ∀ d n (acc : List Txt), n + d = l.length → acc.length ≤ n → Ev (fun k => sF38.l0 k (acc.map B) (l.map B) (n : Int)) ((acc ++ (l.drop n).filter qTurnsBack).map B, true) := by
 intro d
 induction d with
 | zero =>
  intro n acc h ha
  refine Ev.step (fun k => sF38.l0.eq_2 ..) (Ev.ifF (by simp; omega) ?_)
  rw [List.drop_of_length_le (by omega)]; simpa using Ev.now _
 | succ d ih =>
  intro n acc h ha
  have h1 : n < l.length := by omega
  have h2 : (l.getD n []).length ≤ 16 := hx _ (by rw [getD_lt [] h1]; exact List.getElem_mem _)
  refine Ev.step (fun k => sF38.l0.eq_2 ..) ?_
  simp only [rdB l n h1]
  refine Ev.ifT (by simp; omega) (Ev.ifT (by omega) (Ev.bind (turned_ev _ h2) ?_))
  rw [drop_cons_getD [] h1, List.filter_cons]
  generalize l.getD n [] = x at h2
  by_cases hq : qTurnsBack x = true
  ·
   refine Ev.ifT hq (Ev.ifT (by simp; omega) ?_)
   rw [if_pos hq]
   have := ih (n + 1) (acc ++ [x]) (by omega) (by simp; omega)
   simpa only [wrap64_succ n (by omega), List.map_append, List.map_cons, List.map_nil, List.append_assoc, List.cons_append, List.nil_append] using this
  refine Ev.ifF hq ?_
  rw [if_neg hq]
  simpa only [wrap64_succ n (by omega)] using ih (n + 1) acc (by omega) (by omega)
def resTurns8 (s : Txt) : List ByteArray × Bool := if text8 s = true then (((partsL s).filter qTurnsBack).map B, true) else ([], false)
theorem turns_both (s : Txt) (hs : s.length ≤ 1048576) : Ev (fun k => sF38.f k (B s)) (resTurns8 s) ∧ Ev (fun k => iF13.f k (B s)) (resTurns8 s) := by
 have e1 := l8Text_ev s (by omega)
 unfold resTurns8
 cases h1 : text8 s with
 | false =>
  rw [h1] at e1
  unfold sF38.f iF13.f xF0.list
  simp only [isText_eq]
  exact ⟨Ev.some_bind (Ev.bind e1 (Ev.ifF (by simp) (Ev.now _))), by rw [h1]; exact Ev.some_bind (Ev.ifF (by simp) (Ev.now _))⟩
 | true =>
  rw [h1] at e1
  have h16 : s.length ≤ 16 := by unfold text8 at h1; simp at h1; exact h1.2
  have h256 := partsL_length s h16
  have hx : ∀ x ∈ partsL s, x.length ≤ 16 := fun x hx => by have := (mem_partsL hx).1; omega
  refine ⟨?_, ?_⟩
  ·
   unfold sF38.f
   refine Ev.some_bind (Ev.bind e1 (Ev.ifT rfl (Ev.bind (l8Parts_ev s h16) ?_)))
   simpa using spec_TurnsBack_loop (partsL s) (by omega) hx (partsL s).length 0 [] (by omega) (by simp)
  unfold iF13.f
  exact chosen_ev s h1 h16 _ qTurnsBack (fun x hx' => back_ev x (hx x hx'))
theorem backFrom_iff (x : Txt) : ∀ d n, backFrom x n d = true ↔ ∀ i, n ≤ i → i < n + d → x.getD i 0 = x.getD (x.length - 1 - i) 0
 | 0, n => by
  constructor
  ·
   intro _ i h1 h2; omega
  intro _; rfl
 | d + 1, n => by
  rw [backFrom]
  by_cases hc : ((x.getD n 0).toNat : Int) = ((x.getD (x.length - 1 - n) 0).toNat : Int)
  ·
   rw [if_pos hc, backFrom_iff x d (n + 1)]
   have e : x.getD n 0 = x.getD (x.length - 1 - n) 0 := UInt8.toNat_inj.1 (by omega)
   constructor
   ·
    intro h i h1 h2
    by_cases hi : i = n
    ·
     subst hi; exact e
    exact h i (by omega) (by omega)
   intro h i h1 h2; exact h i (by omega) (by omega)
  rw [if_neg hc]
  constructor
  ·
   intro h; cases h
  intro h; exact absurd (congrArg (fun c : UInt8 => (c.toNat : Int)) (h n (Nat.le_refl _) (by omega))) hc
theorem pal_rev {x : Txt} (h : qTurnsBack x = true) : x.reverse = x := by
 have h' := (backFrom_iff x x.length 0).1 h
 refine List.ext_getElem (by simp) fun i h1 h2 => ?_
 rw [List.getElem_reverse]
 have := h' i (by omega) (by omega)
 rw [getD_lt 0 h2, getD_lt 0 (show x.length - 1 - i < x.length by omega)] at this
 exact this.symm
theorem pal_le {s x y : Txt} (hx : x.reverse = x) (hy : y.reverse = y) {i j : Nat} (h1 : hasPre (s.drop i) x = true) (h2 : hasPre (s.drop j) y = true) (f2 : ∀ k, k < j → hasPre (s.drop k) y = false) (e : i + x.length = j + y.length) : x.length ≤ y.length := by
 by_cases hl : x.length ≤ y.length
 ·
  exact hl
 rw [hasPre_iff] at h1 h2
 have hs : x.drop (x.length - y.length) = y := by
  have h3 := congrArg (List.drop (j - i)) h1
  rw [List.drop_take, List.drop_drop, show i + (j - i) = j from by omega, show x.length - (j - i) = y.length from by omega, h2] at h3
  rw [show x.length - y.length = j - i from by omega]
  exact h3.symm
 have hp : x.take y.length = y := by
  have h4 : x.reverse.take y.length = (x.drop (x.length - y.length)).reverse := List.take_reverse
  rw [hx, hs, hy] at h4
  exact h4
 have h5 : (s.drop i).take y.length = y := by
  have h6 := congrArg (List.take y.length) h1
  rw [List.take_take, Nat.min_eq_left (by omega), hp] at h6
  exact h6
 have h7 := f2 i (by omega)
 rw [(hasPre_iff _ _).2 h5] at h7
 cases h7
def fstAt (s x : Txt) : Nat := (List.range (s.length + 1)).findIdx fun i => hasPre (s.drop i) x
theorem findIdx_range (p : Nat → Bool) (n i : Nat) (hi : i < n) (h : p i = true) : p ((List.range n).findIdx p) = true ∧ ∀ k, k < (List.range n).findIdx p → p k = false := by
 have hlt : (List.range n).findIdx p < (List.range n).length := List.findIdx_lt_length_of_exists ⟨i, List.mem_range.2 hi, h⟩
 have h1 := List.findIdx_getElem (xs := List.range n) (p := p) (w := hlt)
 rw [List.getElem_range] at h1
 refine ⟨h1, fun k hk => ?_⟩
 have h2 := List.not_of_lt_findIdx (xs := List.range n) (p := p) (i := k) hk
 rw [List.getElem_range] at h2
 simpa using h2
theorem fstAt_spec {s x : Txt} (hx : x ∈ partsL s) : hasPre (s.drop (fstAt s x)) x = true ∧ (∀ k, k < fstAt s x → hasPre (s.drop k) x = false) ∧ 1 ≤ fstAt s x + x.length ∧ fstAt s x + x.length ≤ s.length := by
 obtain ⟨h1, i, h2⟩ := (mem_parts_iff s x).1 hx
 have hl : 0 < x.length := List.length_pos_iff.2 h1
 have h3 := congrArg List.length ((hasPre_iff _ _).1 h2)
 rw [List.length_take, List.length_drop] at h3
 obtain ⟨g1, g3⟩ := findIdx_range (fun i => hasPre (s.drop i) x) (s.length + 1) i (by omega) h2
 have g1' : hasPre (s.drop (fstAt s x)) x = true := g1
 have g2 := congrArg List.length ((hasPre_iff _ _).1 g1')
 rw [List.length_take, List.length_drop] at g2
 exact ⟨g1', g3, by omega, by omega⟩
theorem pal_count (s : Txt) : ((partsL s).filter qTurnsBack).length ≤ s.length := by
 have hn : ((partsL s).filter qTurnsBack).Nodup := (asc_nodup (asc_setL _)).filter _
 have h1 : (((partsL s).filter qTurnsBack).map fun x => fstAt s x + x.length).Nodup := by
  unfold List.Nodup
  rw [List.pairwise_map]
  refine List.Pairwise.imp_of_mem (fun {a b} ha hb hab he => hab ?_) hn
  rw [List.mem_filter] at ha hb
  obtain ⟨a1, a2, a3, a4⟩ := fstAt_spec ha.1
  obtain ⟨b1, b2, b3, b4⟩ := fstAt_spec hb.1
  have l1 := pal_le (pal_rev ha.2) (pal_rev hb.2) a1 b1 b2 he
  have l2 := pal_le (pal_rev hb.2) (pal_rev ha.2) b1 a1 a2 he.symm
  have hi : fstAt s a = fstAt s b := by omega
  have e1 := (hasPre_iff _ _).1 a1
  have e2 := (hasPre_iff _ _).1 b1
  rw [hi, show a.length = b.length from by omega, e2] at e1
  exact e1.symm
 have h2 := nodup_sub_len _ (List.range' 1 s.length) h1 (fun z hz => by
  obtain ⟨x, hx, rfl⟩ := List.mem_map.1 hz
  rw [List.mem_filter] at hx
  obtain ⟨_, _, a3, a4⟩ := fstAt_spec hx.1
  rw [List.mem_range'_1]; omega)
 simpa using h2
theorem low8 (x : Int) : 0 ≤ Go.bits .and .u64 x 255 ∧ Go.bits .and .u64 x 255 ≤ 255 := by
 have h : ((BitVec.ofInt 64 x) &&& (BitVec.ofInt 64 255)).toNat ≤ 255 := by
  rw [BitVec.toNat_and]; exact Nat.le_trans Nat.and_le_right (by decide)
 have e : Go.bits .and .u64 x 255 = IntKind.u64.wrap ((((BitVec.ofInt 64 x) &&& (BitVec.ofInt 64 255)).toNat : Nat) : Int) := rfl
 rw [e]
 generalize ((BitVec.ofInt 64 x) &&& (BitVec.ofInt 64 255)).toNat = n at h
 have e2 : IntKind.u64.wrap (n : Int) = (n : Int) % 18446744073709551616 := rfl
 rw [e2]; omega
theorem low8w (x : Int) : 0 ≤ wrap64 (Go.bits .and .u64 x 255) ∧ wrap64 (Go.bits .and .u64 x 255) ≤ 255 := by
 have := low8 x
 rw [wrap64_id (by omega) (by omega)]; exact this
def By (l : List Int) : Prop := ∀ x ∈ l, 0 ≤ x ∧ x ≤ 255
theorem by_of {l : List Int} (h : ∀ x ∈ l, (Lit.int .u8 x).wf = true) : By l := fun x hx => by
 have := h x hx
 simp [Lit.wf] at this
 have m0 : IntKind.u8.min = 0 := by decide
 have m1 : IntKind.u8.max = 255 := by decide
 omega
theorem rd_by {l : List Int} (h : By l) (i : Int) : 0 ≤ rd l i ∧ rd l i ≤ 255 := by
 unfold rd
 by_cases hi : i.toNat < l.length
 ·
  rw [getD_lt 0 hi]; exact h _ (List.getElem_mem _)
 rw [List.getD_eq_getElem?_getD, List.getElem?_eq_none (by omega)]; simp
theorem next_ev {l : List Int} (h : By l) (a s : Int) (h0 : 0 ≤ a) (h1 : a ≤ 1000000) : ∃ b s', sF40.f l a s = some (b, a + 1, s') ∧ 0 ≤ b ∧ b ≤ 255 := by
 have hw : wrap64 (a + 1) = a + 1 := wrap64_id (by omega) (by omega)
 have hr := rd_by h a
 have hr2 : wrap64 (rd l a) = rd l a := wrap64_id (by omega) (by omega)
 unfold sF40.f
 rw [hw, hr2]
 by_cases c1 : a < (l.length : Int)
 ·
  rw [if_pos c1, if_pos h0]
  by_cases c2 : a + 1 ≤ (l.length : Int)
  ·
   rw [if_pos c2]; exact ⟨_, _, rfl, hr⟩
  rw [if_neg c2]; exact ⟨_, _, rfl, low8w _⟩
 rw [if_neg c1]
 by_cases c2 : a + 1 ≤ (l.length : Int)
 ·
  rw [if_pos c2]; exact ⟨_, _, rfl, by omega, by omega⟩
 rw [if_neg c2]; exact ⟨_, _, rfl, low8w _⟩
theorem pick_ev {l : List Int} (h : By l) (a s n : Int) (h0 : 0 ≤ a) (h1 : a ≤ 100000) (hn : 1 ≤ n) : ∃ r a' s', sF43.f l a s n = some (r, a', s') ∧ 0 ≤ r ∧ r < n ∧ a ≤ a' ∧ a' ≤ a + 2 := by
 unfold sF43.f
 by_cases c1 : n ≤ 1
 ·
  rw [if_pos c1]; exact ⟨_, _, _, rfl, by omega, by omega, by omega, by omega⟩
 rw [if_neg c1]
 obtain ⟨b, s1, e1, b0, b1⟩ := next_ev h a s h0 (by omega)
 rw [e1, Option.bind_some]
 by_cases c2 : n > 200
 ·
  rw [if_pos c2]
  obtain ⟨c, s2, e2, d0, d1⟩ := next_ev h (a + 1) s1 (by omega) (by omega)
  rw [e2, Option.bind_some, if_neg (by omega)]
  have hw : wrap64 (wrap64 (b * 256) + c) = b * 256 + c := by
   rw [wrap64_id (x := b * 256) (by omega) (by omega), wrap64_id (by omega) (by omega)]
  refine ⟨_, a + 1 + 1, s2, rfl, ?_, ?_, by omega, by omega⟩
  ·
   rw [hw]; exact Int.tmod_nonneg _ (by omega)
  exact Int.tmod_lt_of_pos _ (by omega)
 rw [if_neg c2, if_neg (by omega)]
 exact ⟨_, a + 1, s1, rfl, Int.tmod_nonneg _ (by omega), Int.tmod_lt_of_pos _ (by omega), by omega, by omega⟩
theorem one_ev {l : List Int} (h : By l) (a s n : Int) (h0 : 0 ≤ a) (h1 : a ≤ 100000) (hn : 1 ≤ n) : ∃ r a' s', sF42.f l a s n = some (r, a', s') ∧ a ≤ a' ∧ a' ≤ a + 2 := by
 obtain ⟨r, a', s', e, _, _, h2, h3⟩ := pick_ev h a s n h0 h1 hn
 unfold sF42.f
 rw [e]
 exact ⟨_, a', s', rfl, h2, h3⟩
theorem among_ev {l : List Int} (h : By l) (a s : Int) (m : List Int) (h0 : 0 ≤ a) (h1 : a ≤ 100000) (hm : 0 < m.length) : ∃ r a' s', sF39.f l a s m = some (r, a', s') ∧ r ∈ m ∧ a ≤ a' ∧ a' ≤ a + 2 := by
 obtain ⟨r, a', s', e, r0, r1, h2, h3⟩ := pick_ev h a s (m.length : Int) h0 h1 (by omega)
 unfold sF39.f
 rw [e, Option.bind_some, if_pos r0, if_pos r1]
 refine ⟨_, a', s', rfl, ?_, h2, h3⟩
 unfold rd
 rw [getD_lt 0 (show r.toNat < m.length by omega)]
 exact List.getElem_mem _
theorem of_ev {l : List Int} (h : By l) (a s : Int) (m : List ByteArray) (h0 : 0 ≤ a) (h1 : a ≤ 100000) (hm : 0 < m.length) : ∃ r a' s', sF41.f l a s m = some (r, a', s') ∧ r ∈ m ∧ a ≤ a' ∧ a' ≤ a + 2 := by
 obtain ⟨r, a', s', e, r0, r1, h2, h3⟩ := pick_ev h a s (m.length : Int) h0 h1 (by omega)
 unfold sF41.f
 rw [e, Option.bind_some, if_pos r0, if_pos r1]
 refine ⟨_, a', s', rfl, ?_, h2, h3⟩
 unfold rdOf
 rw [getD_lt _ (show r.toNat < m.length by omega)]
 exact List.getElem_mem _
theorem text_j2 {l : List Int} (h : By l) (x : ByteArray) (hx : x.size ≤ 80) (a s : Int) (h0 : 0 ≤ a) (h1 : a ≤ 10000) : ∃ t a' s', Ev (fun k => sF44.j2 k x l a s) (t, a', s') ∧ t.size ≤ 100 ∧ a ≤ a' ∧ a' ≤ a + 4 := by
 obtain ⟨b, a1, s1, e, h2, h3⟩ := one_ev h a s 40 h0 (by omega) (by omega)
 cases b with
 | false =>
  refine ⟨x, a1, s1, Ev.step (fun k => sF44.j2.eq_2 ..) ?_, by omega, by omega, by omega⟩
  rw [e]
  exact Ev.some_bind (Ev.ifF (by simp) (Ev.now _))
 | true =>
  obtain ⟨r, a2, s2, e2, hm, h4, h5⟩ := of_ev h a1 s1 [(⟨#[65]⟩ : ByteArray), (⟨#[32]⟩ : ByteArray), (⟨#[122, 122, 122, 122, 122, 122, 122, 122, 122, 122, 122, 122, 122, 122, 122, 122, 122]⟩ : ByteArray)] (by omega) (by omega) (by simp)
  have hr : r.size ≤ 17 := by
   simp only [List.mem_cons, List.not_mem_nil, or_false] at hm
   rcases hm with rfl | rfl | rfl <;> decide
  refine ⟨x ++ r, a2, s2, Ev.step (fun k => sF44.j2.eq_2 ..) ?_, by rw [ByteArray.size_append]; omega, by omega, by omega⟩
  rw [e]
  refine Ev.some_bind (Ev.ifT rfl ?_)
  rw [e2]
  exact Ev.some_bind (Ev.ifT (by dsimp only; omega) (Ev.now _))
theorem text_j1 {l : List Int} (h : By l) (x : ByteArray) (hx : x.size ≤ 40) (b : Bool) (a s : Int) (h0 : 0 ≤ a) (h1 : a ≤ 10000) : ∃ t a' s', Ev (fun k => sF44.j1 k x b l a s) (t, a', s') ∧ t.size ≤ 100 ∧ a ≤ a' ∧ a' ≤ a + 4 := by
 cases b with
 | false =>
  obtain ⟨t, a', s', e, h2⟩ := text_j2 h x (by omega) a s h0 h1
  exact ⟨t, a', s', Ev.step (fun k => sF44.j1.eq_2 ..) (Ev.ifF (by simp) e), h2⟩
 | true =>
  obtain ⟨t, a', s', e, h2⟩ := text_j2 h (x ++ x) (by rw [ByteArray.size_append]; omega) a s h0 h1
  exact ⟨t, a', s', Ev.step (fun k => sF44.j1.eq_2 ..) (Ev.ifT rfl (Ev.ifT (by omega) e)), h2⟩
theorem text_loop {l : List Int} (h : By l) (m : Int) (m1 : 1 ≤ m) (m4 : m ≤ 4) : ∀ (d : Nat) (x : ByteArray) (a s : Int), x.size + d ≤ 40 → 0 ≤ a → a + 2 * d ≤ 9000 → ∃ t a' s', Ev (fun k => sF44.l0 k x m (d : Int) l a s) (t, a', s') ∧ t.size ≤ 100 ∧ a ≤ a' ∧ a' ≤ a + 2 * d + 6
 | 0, x, a, s, hx, h0, h1 => by
  obtain ⟨b, a1, s1, e, h2, h3⟩ := one_ev h a s 6 h0 (by omega) (by omega)
  obtain ⟨t, a', s', e2, h4, h5, h6⟩ := text_j1 h x (by omega) (b && decide ((x.size : Int) ≤ 8)) a1 s1 (by omega) (by omega)
  refine ⟨t, a', s', Ev.step (fun k => sF44.l0.eq_2 ..) (Ev.ifF (by omega) ?_), h4, by omega, by omega⟩
  rw [e]
  refine Ev.some_bind ?_
  cases b with
  | false => exact Ev.ifF (by simp) (by simpa using e2)
  | true => exact Ev.ifT rfl (by simpa using e2)
 | d + 1, x, a, s, hx, h0, h1 => by
  obtain ⟨r, a1, s1, e, r0, r1, h2, h3⟩ := pick_ev h a s m h0 (by omega) m1
  have hs : ((⟨#[97, 98, 99, 100]⟩ : ByteArray).extract r.toNat (r + 1).toNat).size = 1 := by
   rw [ByteArray.size_extract]
   have : (⟨#[97, 98, 99, 100]⟩ : ByteArray).size = 4 := rfl
   rw [this]; omega
  obtain ⟨t, a', s', e2, h4, h5, h6⟩ := text_loop h m m1 m4 d (x ++ (⟨#[97, 98, 99, 100]⟩ : ByteArray).extract r.toNat (r + 1).toNat) a1 s1 (by rw [ByteArray.size_append, hs]; omega) (by omega) (by omega)
  refine ⟨t, a', s', Ev.step (fun k => sF44.l0.eq_2 ..) (Ev.ifT (by omega) ?_), h4, by omega, by omega⟩
  rw [e]
  refine Ev.some_bind ?_
  simp only [wrap64_id (x := r + 1) (by omega) (by omega), wrap64_id (x := ((d + 1 : Nat) : Int) - 1) (by omega) (by omega)]
  refine Ev.ifT r0 (Ev.ifT (by omega) (Ev.ifT (by omega) (Ev.ifT (by rw [hs]; omega) ?_)))
  rw [show ((d + 1 : Nat) : Int) - 1 = (d : Int) from by omega]
  exact e2
theorem text_ev {l : List Int} (h : By l) (a s : Int) (h0 : 0 ≤ a) (h1 : a ≤ 1000) : ∃ (t : Txt) (a' s' : Int), Ev (fun k => sF44.f k l a s) (B t, a', s') ∧ t.length ≤ 100 ∧ 0 ≤ a' ∧ a' ≤ a + 100 := by
 obtain ⟨m, a1, s1, e1, hm, g1, g2⟩ := among_ev h a s [2, 3, 1, 2, 4] h0 (by omega) (by simp)
 obtain ⟨n, a2, s2, e2, hn, g3, g4⟩ := among_ev h a1 s1 [6, 8, 4, 3, 12, 1, 0, 16, 2] (by omega) (by omega) (by simp)
 simp only [List.mem_cons, List.not_mem_nil, or_false] at hm hn
 obtain ⟨d, rfl⟩ : ∃ d : Nat, n = (d : Int) := ⟨n.toNat, by omega⟩
 obtain ⟨t, a', s', e3, h4, h5, h6⟩ := text_loop h m (by omega) (by omega) d (⟨#[]⟩ : ByteArray) a2 s2 (by have : (⟨#[]⟩ : ByteArray).size = 0 := rfl; omega) (by omega) (by omega)
 obtain ⟨t, rfl⟩ := exB t
 rw [size_B] at h4
 refine ⟨t, a', s', ?_, h4, by omega, by omega⟩
 unfold sF44.f
 rw [e1]
 refine Ev.some_bind ?_
 dsimp only
 rw [e2]
 exact Ev.some_bind e3
def resSub (s : Txt) : List ByteArray × Bool := if text8 s = true then ((partsL s).map B, true) else ([], false)
theorem text16 {s : Txt} (h : text8 s = true) : s.length ≤ 16 := by unfold text8 at h; simp at h; exact h.2
theorem subs_impl (s : Txt) : Ev (fun k => iF12.f k (B s)) (resSub s) := by
 unfold iF12.f resSub
 rw [isText_eq]
 cases h1 : text8 s with
 | false => exact Ev.some_bind (Ev.ifF (by simp) (Ev.now _))
 | true =>
  have h16 := text16 h1
  have h256 := partsL_length s h16
  exact Ev.some_bind (Ev.ifT rfl (Ev.bind (substrings_ev s h16) (Ev.ifT (by simp; omega) (Ev.now _))))
def resOcc (s p : List UInt8) : List Int × Bool := if text8 s = true ∧ text8 p = true ∧ p ≠ [] then (occM s p, true) else ([], false)
theorem occ_both (s p : List UInt8) (hs : s.length ≤ 1048576) (hp : p.length ≤ 1048576) : Ev (fun k => sF33.f k (B s) (B p)) (resOcc s p) ∧ Ev (fun k => iF7.f k (B s) (B p)) (resOcc s p) := by
 unfold sF33.f iF7.f resOcc
 simp only [isText_eq]
 have e1 := l8Text_ev s (by omega)
 have e2 := l8Text_ev p (by omega)
 cases h1 : text8 s with
 | false => rw [h1] at e1; rw [if_neg (by simp)]; exact ⟨Ev.bind e1 (Ev.ifF (by simp) (Ev.now _)), Ev.some_bind (Ev.ifF (by simp) (Ev.now _))⟩
 | true =>
  rw [h1] at e1
  cases h2 : text8 p with
  | false => rw [h2] at e2; rw [if_neg (by simp)]; exact ⟨Ev.bind e1 (Ev.ifT rfl (Ev.bind e2 (Ev.ifF (by simp) (Ev.now _)))), Ev.some_bind (Ev.ifT rfl (Ev.some_bind (Ev.ifF (by simp) (Ev.now _))))⟩
  | true =>
   rw [h2] at e2
   by_cases h3 : p = []
   ·
    rw [if_neg (by simp [h3])]; exact ⟨Ev.bind e1 (Ev.ifT rfl (Ev.bind e2 (Ev.ifT rfl (Ev.ifT (by simp [h3]) (Ev.now _))))), Ev.some_bind (Ev.ifT rfl (Ev.some_bind (Ev.ifT rfl (Ev.ifT (by simp [h3]) (Ev.now _)))))⟩
   rw [if_pos ⟨rfl, rfl, h3⟩]; exact ⟨Ev.bind e1 (Ev.ifT rfl (Ev.bind e2 (Ev.ifT rfl (Ev.ifF (by simpa using h3) (Ev.bind (l8At_ev s p hs hp) (Ev.now _)))))), Ev.some_bind (Ev.ifT rfl (Ev.some_bind (Ev.ifT rfl (Ev.ifF (by simpa using h3) (Ev.bind (occurs_ev s p hs hp) (Ev.now _))))))⟩
def longer (b x : Txt) : Txt := if x.length > b.length then x else b
theorem longest_loop (l : List Txt) (hl : l.length ≤ 1000000) : ∀ d n b, n + d = l.length → Ev (fun k => iF19.l0 k (B b) (l.map B) ((l.map B).length : Int) (n : Int)) (B ((l.drop n).foldl longer b)) := by
 intro d
 induction d with
 | zero =>
  intro n b h
  refine Ev.step (fun k => iF19.l0.eq_2 ..) (Ev.ifF (by simp; omega) ?_)
  rw [List.drop_of_length_le (by omega)]; exact Ev.now _
 | succ d ih =>
  intro n b h
  have h1 : n < l.length := by omega
  refine Ev.step (fun k => iF19.l0.eq_2 ..) ?_
  simp only [rdB l n h1, size_B]
  refine Ev.ifT (by simp; omega) (Ev.ifT (by omega) (Ev.ifT (by simp; omega) ?_))
  rw [drop_cons_getD [] h1, List.foldl_cons]
  generalize l.getD n [] = x
  by_cases hc : x.length > b.length
  ·
   refine Ev.ifT (by omega) ?_
   rw [show longer b x = x from if_pos hc]
   simpa only [wrap64_succ n (by omega)] using ih (n + 1) x (by omega)
  refine Ev.ifF (by omega) ?_
  rw [show longer b x = b from if_neg hc]
  simpa only [wrap64_succ n (by omega)] using ih (n + 1) b (by omega)
theorem longest_ev (l : List Txt) (hl : l.length ≤ 1000000) : Ev (fun k => iF19.f k (l.map B)) (B (l.foldl longer [])) := by
 simpa [iF19.f] using longest_loop l hl l.length 0 [] (by omega)
def qRep (s x : Txt) : Bool := decide (1 < ((occM s x).length : Int))
def longerIf (s : Txt) (b x : Txt) : Txt := if x.length > b.length then (if qRep s x = true then x else b) else b
theorem fold_longer (s : Txt) : ∀ (l : List Txt) (b : Txt), l.foldl (longerIf s) b = (l.filter (qRep s)).foldl longer b
 | [], _ => rfl
 | x :: l, b => by
  rw [List.foldl_cons, fold_longer s l, List.filter_cons]
  by_cases h : qRep s x = true
  ·
   rw [if_pos h, List.foldl_cons]; simp [longerIf, longer, h]
  rw [if_neg h]; simp [longerIf, h]
theorem rep_ev (s x : Txt) (hs : s.length ≤ 16) (hx : x.length ≤ 16) : Ev (fun k => iF6.p k (B s) (B x)) (qRep s x) :=
 Ev.bind (occurs_ev s x (by omega) (by omega)) (Ev.now _)
theorem spec_rep_loop (s : Txt) (hs : s.length ≤ 16) (l : List Txt) (hl : l.length ≤ 1000000) (hx : ∀ x ∈ l, x.length ≤ 16) : ∀ d n b, n + d = l.length → Ev (fun k => sF32.l0 k (B s) (B b) (l.map B) (n : Int)) (B ((l.drop n).foldl (longerIf s) b), true) := by
 intro d
 induction d with
 | zero =>
  intro n b h
  refine Ev.step (fun k => sF32.l0.eq_2 ..) (Ev.ifF (by simp; omega) ?_)
  rw [List.drop_of_length_le (by omega)]; exact Ev.now _
 | succ d ih =>
  intro n b h
  have h1 : n < l.length := by omega
  have h2 : (l.getD n []).length ≤ 16 := hx _ (by rw [getD_lt [] h1]; exact List.getElem_mem _)
  refine Ev.step (fun k => sF32.l0.eq_2 ..) ?_
  simp only [rdB l n h1, size_B]
  refine Ev.ifT (by simp; omega) (Ev.ifT (by omega) ?_)
  rw [drop_cons_getD [] h1, List.foldl_cons]
  generalize l.getD n [] = x at h2
  by_cases hc : x.length > b.length
  ·
   refine Ev.ifT (by omega) (Ev.bind (l8At_ev s x (by omega) (by omega)) ?_)
   by_cases hq : ((occM s x).length : Int) > 1
   ·
    refine Ev.ifT hq ?_
    rw [show longerIf s b x = x from by unfold longerIf; rw [if_pos hc, if_pos (by simpa [qRep] using hq)]]
    simpa only [wrap64_succ n (by omega)] using ih (n + 1) x (by omega)
   refine Ev.ifF hq ?_
   rw [show longerIf s b x = b from by unfold longerIf; rw [if_pos hc, if_neg (by simpa [qRep] using hq)]]
   simpa only [wrap64_succ n (by omega)] using ih (n + 1) b (by omega)
  refine Ev.ifF (by omega) ?_
  rw [show longerIf s b x = b from if_neg hc]
  simpa only [wrap64_succ n (by omega)] using ih (n + 1) b (by omega)
theorem long_both (s : Txt) (hs : s.length ≤ 1048576) : ∃ r : ByteArray × Bool, Ev (fun k => sF32.f k (B s)) r ∧ Ev (fun k => iF6.f k (B s)) r ∧ (r.2 = true → text8 s = true ∧ 2 ≤ s.length ∧ r.1 = B (((partsL s).filter (qRep s)).foldl longer [])) := by
 unfold sF32.f iF6.f
 have e1 := l8Text_ev s (by omega)
 cases h1 : text8 s with
 | false =>
  rw [h1] at e1
  refine ⟨(⟨#[]⟩, false), Ev.bind e1 (Ev.ifF (by simp) (Ev.step (fun k => sF32.j0.eq_2 ..) (Ev.ifT rfl (Ev.now _)))), Ev.bind (a := (([] : List ByteArray), false)) ?_ (Ev.ifF (by simp) (Ev.now _)), fun h => by cases h⟩
  unfold xF0.list
  rw [isText_eq, h1]
  exact Ev.some_bind (Ev.ifF (by simp) (Ev.now _))
 | true =>
  rw [h1] at e1
  have h16 : s.length ≤ 16 := by unfold text8 at h1; simp at h1; exact h1.2
  have h256 := partsL_length s h16
  have hx : ∀ x ∈ partsL s, x.length ≤ 16 := fun x hx => by have := (mem_partsL hx).1; omega
  have hch := chosen_ev s h1 h16 (fun k => iF6.p k (B s)) (qRep s) (fun x hx' => rep_ev s x h16 (hx x hx'))
  by_cases h2 : ((B s).size : Int) < 2
  ·
   exact ⟨(⟨#[]⟩, false), Ev.bind e1 (Ev.ifT rfl (Ev.step (fun k => sF32.j0.eq_2 ..) (Ev.ifT (by simpa using h2) (Ev.now _)))), Ev.bind hch (Ev.ifF (by simpa using h2) (Ev.now _)), fun h => by cases h⟩
  refine ⟨(B ((partsL s).foldl (longerIf s) []), true), Ev.bind e1 (Ev.ifT rfl (Ev.step (fun k => sF32.j0.eq_2 ..) (Ev.ifF (by simpa using h2) (Ev.bind (l8Parts_ev s h16) ?_)))), Ev.bind hch (Ev.ifT (by simpa using h2) ?_), fun _ => ⟨rfl, by rw [size_B] at h2; omega, by rw [fold_longer]⟩⟩
  ·
   simpa using spec_rep_loop s h16 (partsL s) (by omega) hx (partsL s).length 0 [] (by omega)
  rw [fold_longer]
  have := List.length_filter_le (qRep s) (partsL s)
  exact Ev.bind (longest_ev ((partsL s).filter (qRep s)) (by omega)) (Ev.now _)
def qOnce (s x : Txt) : Bool := decide (((occM s x).length : Int) = 1)
def shorter (b x : Txt) : Txt := if x.length < b.length then x else b
def shorterIf (s : Txt) (b x : Txt) : Txt := if qOnce s x = true then (if x.length < b.length then x else b) else b
theorem fold_shorter (s : Txt) : ∀ (l : List Txt) (b : Txt), l.foldl (shorterIf s) b = (l.filter (qOnce s)).foldl shorter b
 | [], _ => rfl
 | x :: l, b => by
  rw [List.foldl_cons, fold_shorter s l, List.filter_cons]
  by_cases h : qOnce s x = true
  ·
   rw [if_pos h, List.foldl_cons]; simp [shorterIf, shorter, h]
  rw [if_neg h]; simp [shorterIf, h]
theorem less_B (b x : Txt) : iF9.less (B b) (B x) = B (shorter b x) := by
 unfold iF9.less shorter
 by_cases h : x.length < b.length
 ·
  rw [if_pos (by simp; omega), if_pos h]
 rw [if_neg (by simp; omega), if_neg h]
theorem fold_less : ∀ (l : List Txt) (b : Txt), (l.map B).foldl iF9.less (B b) = B (l.foldl shorter b)
 | [], _ => rfl
 | x :: l, b => by rw [List.map_cons, List.foldl_cons, less_B, fold_less l, List.foldl_cons]
theorem once_ev (s x : Txt) (hs : s.length ≤ 16) (hx : x.length ≤ 16) : Ev (fun k => iF9.p k (B s) (B x)) (qOnce s x) :=
 Ev.bind (occurs_ev s x (by omega) (by omega)) (Ev.now _)
theorem spec_once_loop (s : Txt) (hs : s.length ≤ 16) (l : List Txt) (hl : l.length ≤ 1000000) (hx : ∀ x ∈ l, x.length ≤ 16) : ∀ d n b, n + d = l.length → Ev (fun k => sF35.l0 k (B s) (B b) (l.map B) (n : Int)) (B ((l.drop n).foldl (shorterIf s) b), true) := by
 intro d
 induction d with
 | zero =>
  intro n b h
  refine Ev.step (fun k => sF35.l0.eq_2 ..) (Ev.ifF (by simp; omega) ?_)
  rw [List.drop_of_length_le (by omega)]; exact Ev.now _
 | succ d ih =>
  intro n b h
  have h1 : n < l.length := by omega
  have h2 : (l.getD n []).length ≤ 16 := hx _ (by rw [getD_lt [] h1]; exact List.getElem_mem _)
  refine Ev.step (fun k => sF35.l0.eq_2 ..) ?_
  simp only [rdB l n h1, size_B]
  refine Ev.ifT (by simp; omega) (Ev.ifT (by omega) ?_)
  rw [drop_cons_getD [] h1, List.foldl_cons]
  generalize l.getD n [] = x at h2
  refine Ev.bind (l8At_ev s x (by omega) (by omega)) ?_
  by_cases hq : ((occM s x).length : Int) = 1
  ·
   refine Ev.ifT hq ?_
   have hq2 : qOnce s x = true := by simpa [qOnce] using hq
   by_cases hc : x.length < b.length
   ·
    refine Ev.ifT (by omega) ?_
    rw [show shorterIf s b x = x from by unfold shorterIf; rw [if_pos hq2, if_pos hc]]
    simpa only [wrap64_succ n (by omega)] using ih (n + 1) x (by omega)
   refine Ev.ifF (by omega) ?_
   rw [show shorterIf s b x = b from by unfold shorterIf; rw [if_pos hq2, if_neg hc]]
   simpa only [wrap64_succ n (by omega)] using ih (n + 1) b (by omega)
  refine Ev.ifF hq ?_
  have hq2 : ¬ qOnce s x = true := by simpa [qOnce] using hq
  rw [show shorterIf s b x = b from by unfold shorterIf; rw [if_neg hq2]]
  simpa only [wrap64_succ n (by omega)] using ih (n + 1) b (by omega)
theorem once_both (s : Txt) (hs : s.length ≤ 1048576) : ∃ r : ByteArray × Bool, Ev (fun k => sF35.f k (B s)) r ∧ Ev (fun k => iF9.f k (B s)) r ∧ (text8 s = true ∧ s ≠ [] ∧ r = (B (((partsL s).filter (qOnce s)).foldl shorter s), true) ∨ ¬ (text8 s = true ∧ s ≠ []) ∧ r.2 = false) := by
 unfold sF35.f iF9.f
 have e1 := l8Text_ev s (by omega)
 cases h1 : text8 s with
 | false =>
  rw [h1] at e1
  refine ⟨(⟨#[]⟩, false), Ev.bind e1 (Ev.ifF (by simp) (Ev.step (fun k => sF35.j0.eq_2 ..) (Ev.ifT rfl (Ev.now _)))), Ev.bind (a := (([] : List ByteArray), false)) ?_ (Ev.ifF (by simp) (Ev.now _)), .inr ⟨fun h => by simp at h, rfl⟩⟩
  unfold xF0.list
  rw [isText_eq, h1]
  exact Ev.some_bind (Ev.ifF (by simp) (Ev.now _))
 | true =>
  rw [h1] at e1
  have h16 : s.length ≤ 16 := by unfold text8 at h1; simp at h1; exact h1.2
  have h256 := partsL_length s h16
  have hx : ∀ x ∈ partsL s, x.length ≤ 16 := fun x hx => by have := (mem_partsL hx).1; omega
  have hch := chosen_ev s h1 h16 (fun k => iF9.p k (B s)) (qOnce s) (fun x hx' => once_ev s x h16 (hx x hx'))
  by_cases h2 : s = []
  ·
   exact ⟨(⟨#[]⟩, false), Ev.bind e1 (Ev.ifT rfl (Ev.step (fun k => sF35.j0.eq_2 ..) (Ev.ifT (by simp [h2]) (Ev.now _)))), Ev.bind hch (Ev.ifF (by simp [h2]) (Ev.now _)), .inr ⟨fun h => h.2 h2, rfl⟩⟩
  refine ⟨(B ((partsL s).foldl (shorterIf s) s), true), Ev.bind e1 (Ev.ifT rfl (Ev.step (fun k => sF35.j0.eq_2 ..) (Ev.ifF (by simpa using h2) (Ev.bind (l8Parts_ev s h16) ?_)))), Ev.bind hch (Ev.ifT (by simpa using h2) ?_), .inl ⟨rfl, h2, by rw [fold_shorter]⟩⟩
  ·
   simpa using spec_once_loop s h16 (partsL s) (by omega) hx (partsL s).length 0 s (by omega)
  rw [fold_shorter, fold_less]
  exact Ev.now _
def qSquaresOf (x : Txt) : Bool := x.take (x.length / 2) == x.drop (x.length / 2)
theorem half (x : Txt) (h : x.length ≤ 16) : wrap64 ((x.length : Int) / 2) = ((x.length / 2 : Nat) : Int) := by rw [wrap64_id (by omega) (by omega)]; rfl
theorem odd_not (x : Txt) (h : ¬ ((x.length : Int) % 2) = 0) : qSquaresOf x = false := by
 simp only [qSquaresOf, beq_eq_false_iff_ne]
 intro e
 have := congrArg List.length e
 simp at this; omega
theorem square_ev (x : Txt) (h : x.length ≤ 16) : Ev (fun _ => iF11.f (B x)) (qSquaresOf x) := by
 have : iF11.f (B x) = some (qSquaresOf x) := by
  unfold iF11.f
  simp only [size_B, half x h]
  rw [if_pos (by omega), if_pos (by omega)]
  simp only [Int.toNat_natCast, extract_B, toList_B, qSquaresOf, List.drop_zero, Nat.sub_zero]
  rw [List.take_of_length_le (l := x.drop (x.length / 2)) (by simp)]
 rw [this]; exact Ev.now _
theorem spec_SquaresOf_loop (l : List Txt) (hl : l.length ≤ 1000000) (hx : ∀ x ∈ l, x.length ≤ 16) : ∀ d n (acc : List Txt), n + d = l.length → acc.length ≤ n → Ev (fun k => sF36.l0 k (acc.map B) (l.map B) (n : Int)) ((acc ++ (l.drop n).filter qSquaresOf).map B, true) := by
 intro d
 induction d with
 | zero =>
  intro n acc h ha
  refine Ev.step (fun k => sF36.l0.eq_2 ..) (Ev.ifF (by simp; omega) ?_)
  rw [List.drop_of_length_le (by omega)]; simpa using Ev.now _
 | succ d ih =>
  intro n acc h ha
  have h1 : n < l.length := by omega
  have h2 : (l.getD n []).length ≤ 16 := hx _ (by rw [getD_lt [] h1]; exact List.getElem_mem _)
  refine Ev.step (fun k => sF36.l0.eq_2 ..) ?_
  simp only [rdB l n h1, size_B, half _ h2]
  refine Ev.ifT (by simp; omega) (Ev.ifT (by omega) ?_)
  rw [drop_cons_getD [] h1, List.filter_cons]
  generalize l.getD n [] = x at h2
  by_cases ho : ((x.length : Int) % 2) = 0
  ·
   refine Ev.ifT ho (Ev.ifT (by omega) (Ev.ifT (by omega) ?_))
   simp only [Int.toNat_natCast, extract_B, toList_B, List.drop_zero, Nat.sub_zero]
   rw [List.take_of_length_le (l := x.drop (x.length / 2)) (by simp)]
   by_cases hq : x.take (x.length / 2) = x.drop (x.length / 2)
   ·
    have hq2 : qSquaresOf x = true := by simp [qSquaresOf, hq]
    refine Ev.ifT hq (Ev.ifT (by simp; omega) ?_)
    rw [if_pos hq2]
    have := ih (n + 1) (acc ++ [x]) (by omega) (by simp; omega)
    simpa only [wrap64_succ n (by omega), List.map_append, List.map_cons, List.map_nil, List.append_assoc, List.cons_append, List.nil_append] using this
   have hq2 : ¬ qSquaresOf x = true := by simp [qSquaresOf, hq]
   refine Ev.ifF hq ?_
   rw [if_neg hq2]
   simpa only [wrap64_succ n (by omega)] using ih (n + 1) acc (by omega) (by omega)
  refine Ev.ifF ho ?_
  rw [if_neg (by rw [odd_not x ho]; exact Bool.false_ne_true)]
  simpa only [wrap64_succ n (by omega)] using ih (n + 1) acc (by omega) (by omega)
def resSquares8 (s : Txt) : List ByteArray × Bool := if text8 s = true then (((partsL s).filter qSquaresOf).map B, true) else ([], false)
theorem squares_both (s : Txt) (hs : s.length ≤ 1048576) : Ev (fun k => sF36.f k (B s)) (resSquares8 s) ∧ Ev (fun k => iF10.f k (B s)) (resSquares8 s) := by
 have e1 := l8Text_ev s (by omega)
 unfold resSquares8
 cases h1 : text8 s with
 | false =>
  rw [h1] at e1
  unfold sF36.f iF10.f xF0.list
  simp only [isText_eq]
  exact ⟨Ev.some_bind (Ev.bind e1 (Ev.ifF (by simp) (Ev.now _))), by rw [h1]; exact Ev.some_bind (Ev.ifF (by simp) (Ev.now _))⟩
 | true =>
  rw [h1] at e1
  have h16 : s.length ≤ 16 := by unfold text8 at h1; simp at h1; exact h1.2
  have h256 := partsL_length s h16
  have hx : ∀ x ∈ partsL s, x.length ≤ 16 := fun x hx => by have := (mem_partsL hx).1; omega
  refine ⟨?_, ?_⟩
  ·
   unfold sF36.f
   refine Ev.some_bind (Ev.bind e1 (Ev.ifT rfl (Ev.bind (l8Parts_ev s h16) ?_)))
   simpa using spec_SquaresOf_loop (partsL s) (by omega) hx (partsL s).length 0 [] (by omega) (by simp)
  unfold iF10.f
  exact chosen_ev s h1 h16 _ qSquaresOf (fun x hx' => square_ev x (hx x hx'))
end Go.Proofs.YtblcdgnihmcdpaaGreatDoor.L
namespace Go.Proofs.YtblcdgnihmcdpaaGreatDoor.L
open Go.RowKit Go.Proofs.YtblcdgnihmcdpaaGreatDoor.P Go.Proofs.YtblcdgnihmcdpaaGreatDoor.M Go.Proofs.YtblcdgnihmcdpaaGreatDoorW.PrintWords Go.Proofs.YtblcdgnihmcdpaaGreatDoorW.PrintLast Go.Proofs.YtblcdgnihmcdpaaGreatDoorW.PrintMore
namespace CommonSub
theorem index_ge (p : Txt) : ∀ l : Txt, -1 ≤ Go.Lib.index l p
 | [] => by unfold Go.Lib.index; split <;> omega
 | b :: l => by
  have := index_ge p l
  unfold Go.Lib.index
  split
  ·
   omega
  split
  ·
   omega
  omega
theorem pre_iff (l p : Txt) : hasPre l p = p.isPrefixOf l := by
 rw [Bool.eq_iff_iff, List.isPrefixOf_iff_prefix]
 unfold hasPre
 rw [beq_iff_eq, List.prefix_iff_eq_take]
 exact eq_comm
theorem occ_index (s p : Txt) : ∀ (l : Txt) (n : Nat), s.drop n = l → (0 < (occFrom s p n (l.length + 1)).length ↔ 0 ≤ Go.Lib.index l p)
 | [], n, h => by
  rw [List.length_nil, occFrom, occFrom, List.append_nil, h]
  cases p with
  | nil => simp [hasPre, Go.Lib.index]
  | cons x p => simp [hasPre, Go.Lib.index]
 | b :: l, n, h => by
  have h2 : s.drop (n + 1) = l := by
   have := congrArg (List.drop 1) h
   rw [List.drop_drop] at this
   simpa using this
  have ih := occ_index s p l (n + 1) h2
  have hg := index_ge p l
  rw [List.length_cons, occFrom, h, pre_iff]
  by_cases hp : p.isPrefixOf (b :: l) = true
  ·
   rw [if_pos hp]
   unfold Go.Lib.index
   rw [if_pos hp]
   simp
  rw [if_neg hp, List.nil_append, ih]
  conv => rhs; unfold Go.Lib.index
  rw [if_neg hp]
  by_cases he : (Go.Lib.index l p == -1) = true
  ·
   rw [if_pos he]
   have := beq_iff_eq.1 he
   omega
  rw [if_neg he]
  have : Go.Lib.index l p ≠ -1 := fun e => he (beq_iff_eq.2 e)
  omega
def inB (b x : Txt) : Bool := decide (0 < ((occM b x).length : Int))
theorem contains_eq (b x : Txt) : Go.Lib.contains b x = inB b x := by
 unfold Go.Lib.contains inB occM
 have := occ_index b x b 0 (by simp)
 rw [decide_eq_decide]
 omega
def lIf (s : Txt) (b x : Txt) : Txt := if x.length > b.length then (if inB s x = true then x else b) else b
theorem fold_lIf (s : Txt) : ∀ (l : List Txt) (b : Txt), l.foldl (lIf s) b = (l.filter (inB s)).foldl longer b
 | [], _ => rfl
 | x :: l, b => by
  rw [List.foldl_cons, fold_lIf s l, List.filter_cons]
  by_cases h : inB s x = true
  ·
   rw [if_pos h, List.foldl_cons]; simp [lIf, longer, h]
  rw [if_neg h]; simp [lIf, h]
theorem spec_loop (s : Txt) (hs : s.length ≤ 16) (l : List Txt) (hl : l.length ≤ 1000000) (hx : ∀ x ∈ l, x.length ≤ 16) : ∀ d n b, n + d = l.length → Ev (fun k => sF27.l0 k (B s) (B b) (l.map B) (n : Int)) (B ((l.drop n).foldl (lIf s) b), true) := by
 intro d
 induction d with
 | zero =>
  intro n b h
  refine Ev.step (fun k => sF27.l0.eq_2 ..) (Ev.ifF (by simp; omega) ?_)
  rw [List.drop_of_length_le (by omega)]; exact Ev.now _
 | succ d ih =>
  intro n b h
  have h1 : n < l.length := by omega
  have h2 : (l.getD n []).length ≤ 16 := hx _ (by rw [getD_lt [] h1]; exact List.getElem_mem _)
  refine Ev.step (fun k => sF27.l0.eq_2 ..) ?_
  simp only [rdB l n h1, size_B]
  refine Ev.ifT (by simp; omega) (Ev.ifT (by omega) ?_)
  rw [drop_cons_getD [] h1, List.foldl_cons]
  generalize l.getD n [] = x at h2
  by_cases hc : x.length > b.length
  ·
   refine Ev.ifT (by omega) (Ev.bind (l8At_ev s x (by omega) (by omega)) ?_)
   by_cases hq : ((occM s x).length : Int) > 0
   ·
    refine Ev.ifT hq ?_
    rw [show lIf s b x = x from by unfold lIf; rw [if_pos hc, if_pos (show inB s x = true from decide_eq_true hq)]]
    simpa only [wrap64_succ n (by omega)] using ih (n + 1) x (by omega)
   refine Ev.ifF hq ?_
   rw [show lIf s b x = b from by unfold lIf; rw [if_pos hc, if_neg (show ¬ inB s x = true from fun e => hq (oD_ e))]]
   simpa only [wrap64_succ n (by omega)] using ih (n + 1) b (by omega)
  refine Ev.ifF (by omega) ?_
  rw [show lIf s b x = b from if_neg hc]
  simpa only [wrap64_succ n (by omega)] using ih (n + 1) b (by omega)
theorem both (s t : Txt) (hs : s.length ≤ 1048576) (ht : t.length ≤ 1048576) : ∃ r : ByteArray × Bool, Ev (fun k => sF27.f k (B s) (B t)) r ∧ Ev (fun k => iF4.f k (B s) (B t)) r ∧ (text8 s = true ∧ text8 t = true ∧ r = (B (((partsL s).filter (inB t)).foldl longer []), true) ∨ ¬ (text8 s = true ∧ text8 t = true) ∧ r = (⟨#[]⟩, false)) := by
 have e1 := l8Text_ev s (by omega)
 have e2 := l8Text_ev t (by omega)
 have s0 : Ev (fun k => sF27.j0 k (B s) (B t) true) (⟨#[]⟩, false) := Ev.step (fun k => sF27.j0.eq_2 ..) (Ev.ifT rfl (Ev.now _))
 unfold sF27.f iF4.f
 cases h1 : text8 s with
 | false =>
  rw [h1] at e1
  refine ⟨(⟨#[]⟩, false), Ev.bind e1 (Ev.ifF (by simp) s0), Ev.bind (a := (([] : List ByteArray), false)) ?_ (Ev.ifF (by simp) (Ev.now _)), .inr ⟨fun h => by simp at h, rfl⟩⟩
  unfold xF0.list
  rw [isText_eq, h1]
  exact Ev.some_bind (Ev.ifF (by simp) (Ev.now _))
 | true =>
  rw [h1] at e1
  have h16 : s.length ≤ 16 := by unfold text8 at h1; simp at h1; exact h1.2
  have h256 := partsL_length s h16
  have hx : ∀ x ∈ partsL s, x.length ≤ 16 := fun x hx => by have := (mem_partsL hx).1; omega
  have hch := chosen_ev s h1 h16 (fun k => iF4.p (B t)) (inB t) (fun x _ => by
   show Ev (fun _ => iF4.p (B t) (B x)) (inB t x)
   unfold iF4.p iF4.q
   rw [data_B, data_B, contains_eq]
   exact Ev.ifT (by rw [size_B]; omega) (Ev.now _))
  cases h2 : text8 t with
  | false =>
   rw [h2] at e2
   refine ⟨(⟨#[]⟩, false), Ev.bind e1 (Ev.ifT rfl (Ev.bind e2 s0)), Ev.bind hch (Ev.ifT rfl ?_), .inr ⟨fun h => by simp at h, rfl⟩⟩
   rw [isText_eq, h2]
   exact Ev.some_bind (Ev.ifF (by simp) (Ev.now _))
  | true =>
   rw [h2] at e2
   have t16 : t.length ≤ 16 := by unfold text8 at h2; simp at h2; exact h2.2
   refine ⟨(B ((partsL s).foldl (lIf t) []), true), Ev.bind e1 (Ev.ifT rfl (Ev.bind e2 (Ev.step (fun k => sF27.j0.eq_2 ..) (Ev.ifF (by simp) (Ev.bind (l8Parts_ev s h16) ?_))))), Ev.bind hch (Ev.ifT rfl ?_), .inl ⟨rfl, rfl, by rw [fold_lIf]⟩⟩
   ·
    exact spec_loop t t16 (partsL s) (by omega) hx (partsL s).length 0 [] (by omega)
   rw [isText_eq, h2, fold_lIf]
   have := List.length_filter_le (inB t) (partsL s)
   exact Ev.some_bind (Ev.ifT rfl (Ev.bind (longest_ev ((partsL s).filter (inB t)) (by omega)) (Ev.now _)))
end CommonSub
end Go.Proofs.YtblcdgnihmcdpaaGreatDoor.L
namespace Go.Proofs.YtblcdgnihmcdpaaGreatDoor.L
open Go.RowKit Go.Proofs.YtblcdgnihmcdpaaGreatDoor.P Go.Proofs.YtblcdgnihmcdpaaGreatDoor.M Go.Proofs.YtblcdgnihmcdpaaGreatDoorW.PrintWords Go.Proofs.YtblcdgnihmcdpaaGreatDoorW.PrintLast Go.Proofs.YtblcdgnihmcdpaaGreatDoorW.PrintMore
theorem l2Has_loop (l : List Txt) (p : Txt) (hl : l.length ≤ 4611686018427387903) : ∀ (d i : Nat), i + d = l.length → Ev (fun k => sF47.l0 k (l.map B) (B p) (i : Int)) (decide (p ∈ l.drop i)) := by
 intro d
 induction d with
 | zero =>
  intro i h
  rw [List.drop_of_length_le (by omega)]
  exact Ev.step (fun k => sF47.l0.eq_2 ..) (Ev.ifF (by simp; omega) (by simpa using Ev.now false))
 | succ d ih =>
  intro i h
  have hi : i < l.length := by omega
  refine Ev.step (fun k => sF47.l0.eq_2 ..) (Ev.ifT (by simp; omega) (Ev.ifT (by omega) ?_))
  rw [rdB l i hi, drop_cons_getD [] hi, toList_B, toList_B]
  by_cases e : l.getD i [] = p
  ·
   rw [show decide (p ∈ l.getD i [] :: l.drop (i + 1)) = true from decide_eq_true (by rw [e]; exact List.mem_cons_self)]
   exact Ev.ifT e (Ev.now _)
  rw [show decide (p ∈ l.getD i [] :: l.drop (i + 1)) = decide (p ∈ l.drop (i + 1)) from decide_eq_decide.2 ⟨fun h => (List.mem_cons.1 h).resolve_left (fun q => e q.symm), fun h => List.mem_cons_of_mem _ h⟩]
  refine Ev.ifF e ?_
  rw [wrap64_succ i (by omega)]
  exact ih (i + 1) (by omega)
theorem l2Has_ev (l : List Txt) (p : Txt) (hl : l.length ≤ 4611686018427387903) : Ev (fun k => sF47.f k (l.map B) (B p)) (decide (p ∈ l)) := by
 have := l2Has_loop l p hl l.length 0 (by omega)
 rw [List.drop_zero] at this
 exact this
theorem strOfNums_B (n : Int) : strOfNums [n] = B [UInt8.ofNat n.toNat] := rfl
theorem letter_eq (n : Int) (h0 : 0 ≤ n) (h1 : n ≤ 25) : iF18.f n = some (B [UInt8.ofNat (97 + n.toNat)]) := by
 unfold iF18.f
 rw [strOfNums_B]
 congr 3
 rw [wrap64_id (by omega) (by omega)]
 congr 1
 omega
end Go.Proofs.YtblcdgnihmcdpaaGreatDoor.L
namespace Go.Proofs.YtblcdgnihmcdpaaGreatDoor.M
theorem index_ge (p : Txt) : ∀ l : Txt, -1 ≤ Go.Lib.index l p
 | [] => by unfold Go.Lib.index; split <;> omega
 | b :: l => by
  have := index_ge p l
  unfold Go.Lib.index
  split
  ·
   omega
  split
  ·
   omega
  omega
theorem index_iff (p : Txt) : ∀ l : Txt, 0 ≤ Go.Lib.index l p ↔ ∃ m, m ≤ l.length ∧ p <+: l.drop m
 | [] => by
  unfold Go.Lib.index
  cases p with
  | nil => simp
  | cons x p => simp
 | b :: l => by
  have ih := index_iff p l
  have hg := index_ge p l
  unfold Go.Lib.index
  by_cases hp : p.isPrefixOf (b :: l) = true
  ·
   rw [if_pos hp]
   exact ⟨fun _ => ⟨0, Nat.zero_le _, List.isPrefixOf_iff_prefix.1 hp⟩, fun _ => Int.le_refl 0⟩
  rw [if_neg hp]
  have key : (0 ≤ if (Go.Lib.index l p == -1) = true then (-1 : Int) else Go.Lib.index l p + 1) ↔ 0 ≤ Go.Lib.index l p := by
   by_cases he : (Go.Lib.index l p == -1) = true
   ·
    rw [if_pos he]
    have := beq_iff_eq.1 he
    omega
   rw [if_neg he]
   have : Go.Lib.index l p ≠ -1 := fun e => he (beq_iff_eq.2 e)
   omega
  rw [key, ih]
  constructor
  ·
   rintro ⟨m, h1, h2⟩
   exact ⟨m + 1, by rw [List.length_cons]; omega, by simpa using h2⟩
  rintro ⟨m, h1, h2⟩
  cases m with
  | zero => exact absurd (List.isPrefixOf_iff_prefix.2 h2) hp
  | succ m => exact ⟨m, by rw [List.length_cons] at h1; omega, by simpa using h2⟩
end Go.Proofs.YtblcdgnihmcdpaaGreatDoor.M
namespace Go.Proofs.YtblcdgnihmcdpaaGreatDoor.L
open Go.RowKit Go.Proofs.YtblcdgnihmcdpaaGreatDoor.P Go.Proofs.YtblcdgnihmcdpaaGreatDoor.M Go.Proofs.YtblcdgnihmcdpaaGreatDoorW.PrintWords Go.Proofs.YtblcdgnihmcdpaaGreatDoorW.PrintLast Go.Proofs.YtblcdgnihmcdpaaGreatDoorW.PrintMore
namespace Absent
theorem mem_cols_of (s : Txt) (i : Nat) : ∀ (d j m : Nat), j ≤ m → m < j + d → (s.drop i).take (m - i) ∈ colsL s i j d
 | 0, j, m, h1, h2 => by omega
 | d + 1, j, m, h1, h2 => by
  rw [colsL]
  by_cases h : m = j
  ·
   subst h; exact List.mem_cons_self
  exact List.mem_cons_of_mem _ (mem_cols_of s i d (j + 1) m (by omega) (by omega))
theorem mem_rows_of (s : Txt) (i m : Nat) (h1 : i < m) (h2 : m ≤ s.length) : ∀ (d j : Nat), j ≤ i → j + d = s.length → (s.drop i).take (m - i) ∈ rowsL s j d
 | 0, j, h3, h4 => by omega
 | d + 1, j, h3, h4 => by
  rw [rowsL]
  by_cases h : i = j
  ·
   subst h
   exact List.mem_append_left _ (mem_cols_of s i _ _ m (by omega) (by omega))
  exact List.mem_append_right _ (mem_rows_of s i m h1 h2 d (j + 1) (by omega) (by omega))
theorem rows_occ (s : Txt) : ∀ (d j : Nat) (x : Txt), x ∈ rowsL s j d → ∃ i m, x = (s.drop i).take (m - i)
 | 0, j, x, h => by simp [rowsL] at h
 | d + 1, j, x, h => by
  rw [rowsL] at h
  rcases List.mem_append.1 h with h | h
  ·
   obtain ⟨_, _, m, _, _, rfl⟩ := mem_colsL s j _ _ x h
   exact ⟨j, m, rfl⟩
  exact rows_occ s d (j + 1) x h
theorem occ_part (s w : Txt) (hw : w ≠ []) : Go.Lib.contains s w = decide (w ∈ partsL s) := by
 unfold Go.Lib.contains
 rw [decide_eq_decide, index_iff]
 have hl := List.length_pos_iff.2 hw
 constructor
 ·
  rintro ⟨i, hi, hp⟩
  have h1 := hp.length_le
  rw [List.length_drop] at h1
  have h2 := List.prefix_iff_eq_take.1 hp
  have := mem_rows_of s i (i + w.length) (by omega) (by omega) s.length 0 (Nat.zero_le _) (by omega)
  rw [show i + w.length - i = w.length from by omega, ← h2] at this
  exact (mem_setL _ _).2 this
 intro h
 obtain ⟨i, m, e⟩ := rows_occ s _ _ w ((mem_setL _ _).1 h)
 refine ⟨i, ?_, ?_⟩
 ·
  have h1 := congrArg List.length e
  rw [List.length_take, List.length_drop] at h1
  omega
 rw [e]; exact List.take_prefix _ _
def ch (c : Nat) : UInt8 := UInt8.ofNat (97 + c)
def rowC (p : Txt) (L c : Nat) : List Txt := ((List.range L).drop c).map fun c => p ++ [ch c]
def cand (L : Nat) : List Txt → List Txt
 | [] => []
 | p :: r => rowC p L 0 ++ cand L r
def bad (s w : Txt) : Bool := !decide (w ∈ partsL s)
theorem rowC_succ (p : Txt) (L c : Nat) (h : c < L) : rowC p L c = (p ++ [ch c]) :: rowC p L (c + 1) := by
 unfold rowC
 rw [List.drop_eq_getElem_cons (by rw [List.length_range]; exact h), List.getElem_range, List.map_cons]
theorem rowC_end (p : Txt) (L c : Nat) (h : L ≤ c) : rowC p L c = [] := by
 unfold rowC
 rw [List.drop_of_length_le (by rw [List.length_range]; exact h)]; rfl
theorem cand_length (L : Nat) : ∀ P : List Txt, (cand L P).length = L * P.length
 | [] => by simp [cand]
 | p :: r => by
  rw [cand, List.length_append, cand_length L r, List.length_cons, Nat.mul_succ]
  unfold rowC
  rw [List.drop_zero, List.length_map, List.length_range]; omega
theorem cand_len1 (L n : Nat) : ∀ P : List Txt, (∀ p ∈ P, p.length = n) → ∀ w ∈ cand L P, w.length = n + 1
 | [], _, w, h => by simp [cand] at h
 | p :: r, hp, w, h => by
  rw [cand] at h
  rcases List.mem_append.1 h with h | h
  ·
   obtain ⟨c, _, rfl⟩ := List.mem_map.1 h
   rw [List.length_append, hp p (by simp)]; rfl
  exact cand_len1 L n r (fun q hq => hp q (List.mem_cons_of_mem _ hq)) w h
theorem abcd_B (c : Nat) (h : c < 4) : (⟨#[97, 98, 99, 100]⟩ : ByteArray).extract (c : Int).toNat ((c + 1 : Nat) : Int).toNat = B [ch c] := by
 rw [Int.toNat_natCast, Int.toNat_natCast]
 show (B [97, 98, 99, 100]).extract c (c + 1) = _
 rw [extract_B]
 match c, h with
 | 0, _ => rfl
 | 1, _ => rfl
 | 2, _ => rfl
 | 3, _ => rfl
theorem spec_in (s : Txt) (h256 : (partsL s).length ≤ 256) (L : Nat) (hL : L ≤ 4) (P : List Txt) (hP : P.length ≤ 4294967296) (i : Nat) (hi : i < P.length) (hp16 : (P.getD i []).length ≤ 16) (r : ByteArray × Bool) :
  ∀ (d c : Nat) (acc : List Txt), c + d = L → acc.length + d ≤ 1000000000000 → (match (rowC (P.getD i []) L c).find? (bad s) with | some w => r = (B w, true) | none => Ev (fun k => sF34.l1 k (L : Int) (P.map B) ((partsL s).map B) ((acc ++ rowC (P.getD i []) L c).map B) ((i + 1 : Nat) : Int)) r) →
   Ev (fun k => sF34.l2 k (L : Int) (P.map B) ((partsL s).map B) (acc.map B) (i : Int) (c : Int)) r := by
 intro d
 induction d with
 | zero =>
  intro c acc q1 q2 h
  rw [rowC_end _ L c (by omega)] at h
  refine Ev.step (fun k => sF34.l2.eq_2 ..) (Ev.ifF (by omega) ?_)
  rw [wrap64_succ i (by omega)]
  simpa using h
 | succ d ih =>
  intro c acc q1 q2 h
  rw [rowC_succ _ L c (by omega)] at h
  have hhas := l2Has_ev (partsL s) (P.getD i [] ++ [ch c]) (by omega)
  refine Ev.step (fun k => sF34.l2.eq_2 ..) (Ev.ifT (by omega) (Ev.ifT (by omega) (Ev.ifT (by rw [List.length_map]; omega) (Ev.ifT (by omega) ?_))))
  rw [wrap64_succ c (by omega)]
  refine Ev.ifT (by omega) (Ev.ifT (by omega) ?_)
  rw [abcd_B c (by omega), rdB P i hi]
  refine Ev.ifT (by rw [size_B, size_B]; simp only [List.length_singleton]; omega) ?_
  rw [append_B]
  refine Ev.bind hhas ?_
  by_cases hb : bad s (P.getD i [] ++ [ch c]) = true
  ·
   rw [List.find?_cons_of_pos hb] at h
   have hn : decide (P.getD i [] ++ [ch c] ∈ partsL s) = false := by unfold bad at hb; simpa using hb
   rw [hn]
   refine Ev.ifF Bool.false_ne_true ?_
   dsimp only at h
   rw [h]
   exact Ev.now _
  rw [List.find?_cons_of_neg hb] at h
  have hn : decide (P.getD i [] ++ [ch c] ∈ partsL s) = true := by unfold bad at hb; simpa using hb
  rw [hn]
  refine Ev.ifT rfl (Ev.ifT (by rw [List.length_map]; omega) ?_)
  have := ih (c + 1) (acc ++ [P.getD i [] ++ [ch c]]) (by omega) (by rw [List.length_append, List.length_singleton]; omega) (by rw [List.append_assoc]; exact h)
  rwa [List.map_append] at this
theorem spec_lev (s : Txt) (h256 : (partsL s).length ≤ 256) (L : Nat) (hL : L ≤ 4) (P : List Txt) (hP : P.length ≤ 4294967296) (hp16 : ∀ p ∈ P, p.length ≤ 16) (r : ByteArray × Bool) :
  ∀ (d i : Nat) (acc : List Txt), i + d = P.length → acc.length ≤ 4 * i → (match (cand L (P.drop i)).find? (bad s) with | some w => r = (B w, true) | none => Ev (fun k => sF34.l0 k (L : Int) ((acc ++ cand L (P.drop i)).map B) ((partsL s).map B)) r) →
   Ev (fun k => sF34.l1 k (L : Int) (P.map B) ((partsL s).map B) (acc.map B) (i : Int)) r := by
 intro d
 induction d with
 | zero =>
  intro i acc q1 q2 h
  rw [List.drop_of_length_le (by omega)] at h
  refine Ev.step (fun k => sF34.l1.eq_2 ..) (Ev.ifF (by rw [List.length_map]; omega) ?_)
  simpa [cand] using h
 | succ d ih =>
  intro i acc q1 q2 h
  have hi : i < P.length := by omega
  rw [drop_cons_getD [] hi, cand, List.find?_append] at h
  refine Ev.step (fun k => sF34.l1.eq_2 ..) (Ev.ifT (by rw [List.length_map]; omega) ?_)
  refine spec_in s h256 L hL P hP i hi (hp16 _ (by rw [getD_lt [] hi]; exact List.getElem_mem hi)) r L 0 acc (by omega) (by omega) ?_
  cases hf : (rowC (P.getD i []) L 0).find? (bad s) with
  | some w => rw [hf] at h; simpa using h
  | none =>
   rw [hf, Option.none_or] at h
   refine ih (i + 1) _ (by omega) ?_ ?_
   ·
    unfold rowC
    rw [List.length_append, List.drop_zero, List.length_map, List.length_range]; omega
   rw [List.append_assoc]; exact h
theorem letter_B (c : Nat) (h : c < 4) : iF18.f (c : Int) = some (B [ch c]) := by
 rw [letter_eq _ (by omega) (by omega), Int.toNat_natCast]; rfl
theorem has_B (s w : Txt) (hs : s.length ≤ 16) (hw : w ≠ []) : xF56.f (B s) (B w) = some (decide (w ∈ partsL s)) := by
 unfold xF56.f
 rw [if_pos (by rw [size_B]; omega), data_B, data_B, occ_part s w hw]
theorem iF16 (s : Txt) (hs : s.length ≤ 16) (L : Nat) (hL : L ≤ 4) (P : List Txt) (hP : P.length ≤ 4294967296) (i : Nat) (hi : i < P.length) (hp16 : (P.getD i []).length ≤ 16) (r : ByteArray × Bool) :
  ∀ (d c : Nat) (acc : List Txt), c + d = L → acc.length + d ≤ 1000000000000 → (match (rowC (P.getD i []) L c).find? (bad s) with | some w => r = (B w, true) | none => Ev (fun k => iF8.l1 k (B s) (L : Int) ((acc ++ rowC (P.getD i []) L c).map B) (P.map B) (P.length : Int) ((i + 1 : Nat) : Int)) r) →
   Ev (fun k => iF8.l2 k (B s) (L : Int) (acc.map B) (B (P.getD i [])) (P.map B) (P.length : Int) (i : Int) (L : Int) (c : Int)) r := by
 intro d
 induction d with
 | zero =>
  intro c acc q1 q2 h
  rw [rowC_end _ L c (by omega)] at h
  refine Ev.step (fun k => iF8.l2.eq_2 ..) (Ev.ifF (by omega) ?_)
  rw [wrap64_succ i (by omega)]
  simpa using h
 | succ d ih =>
  intro c acc q1 q2 h
  rw [rowC_succ _ L c (by omega)] at h
  refine Ev.step (fun k => iF8.l2.eq_2 ..) (Ev.ifT (by omega) ?_)
  rw [letter_B c (by omega)]
  refine Ev.some_bind (Ev.ifT (by rw [size_B, size_B]; simp only [List.length_singleton]; omega) ?_)
  rw [append_B, has_B s _ hs (by simp)]
  refine Ev.some_bind ?_
  by_cases hb : bad s (P.getD i [] ++ [ch c]) = true
  ·
   rw [List.find?_cons_of_pos hb] at h
   have hn : decide (P.getD i [] ++ [ch c] ∈ partsL s) = false := by unfold bad at hb; simpa using hb
   rw [hn]
   refine Ev.ifF Bool.false_ne_true ?_
   dsimp only at h
   rw [h]
   exact Ev.now _
  rw [List.find?_cons_of_neg hb] at h
  have hn : decide (P.getD i [] ++ [ch c] ∈ partsL s) = true := by unfold bad at hb; simpa using hb
  rw [hn]
  refine Ev.ifT rfl (Ev.some_bind (Ev.ifT (by rw [size_B, size_B]; simp only [List.length_singleton]; omega) (Ev.ifT (by rw [List.length_map]; omega) ?_)))
  rw [wrap64_succ c (by omega)]
  have := ih (c + 1) (acc ++ [P.getD i [] ++ [ch c]]) (by omega) (by rw [List.length_append, List.length_singleton]; omega) (by rw [List.append_assoc]; exact h)
  rwa [List.map_append] at this
theorem impl_lev (s : Txt) (hs : s.length ≤ 16) (L : Nat) (hL : L ≤ 4) (P : List Txt) (hP : P.length ≤ 4294967296) (hp16 : ∀ p ∈ P, p.length ≤ 16) (r : ByteArray × Bool) :
  ∀ (d i : Nat) (acc : List Txt), i + d = P.length → acc.length ≤ 4 * i → (match (cand L (P.drop i)).find? (bad s) with | some w => r = (B w, true) | none => Ev (fun k => iF8.l0 k (B s) (L : Int) ((acc ++ cand L (P.drop i)).map B)) r) →
   Ev (fun k => iF8.l1 k (B s) (L : Int) (acc.map B) (P.map B) (P.length : Int) (i : Int)) r := by
 intro d
 induction d with
 | zero =>
  intro i acc q1 q2 h
  rw [List.drop_of_length_le (by omega)] at h
  refine Ev.step (fun k => iF8.l1.eq_2 ..) (Ev.ifF (by omega) ?_)
  simpa [cand] using h
 | succ d ih =>
  intro i acc q1 q2 h
  have hi : i < P.length := by omega
  rw [drop_cons_getD [] hi, cand, List.find?_append] at h
  refine Ev.step (fun k => iF8.l1.eq_2 ..) (Ev.ifT (by omega) (Ev.ifT (by omega) (Ev.ifT (by rw [List.length_map]; omega) ?_)))
  rw [rdB P i hi]
  refine iF16 s hs L hL P hP i hi (hp16 _ (by rw [getD_lt [] hi]; exact List.getElem_mem hi)) r L 0 acc (by omega) (by omega) ?_
  cases hf : (rowC (P.getD i []) L 0).find? (bad s) with
  | some w => rw [hf] at h; simpa using h
  | none =>
   rw [hf, Option.none_or] at h
   refine ih (i + 1) _ (by omega) ?_ ?_
   ·
    unfold rowC
    rw [List.length_append, List.drop_zero, List.length_map, List.length_range]; omega
   rw [List.append_assoc]; exact h
theorem found_out {s : Txt} {L n : Nat} {P : List Txt} (q4 : ∀ p ∈ P, p.length = n) {w : Txt} (hf : (cand L P).find? (bad s) = some w) : w ≠ [] ∧ w ∉ partsL s := by
 have h1 := List.find?_some hf
 have h2 := cand_len1 L n P q4 w (List.mem_of_find?_eq_some hf)
 exact ⟨fun e => by subst e; simp at h2, by unfold bad at h1; simpa using h1⟩
theorem levels (s : Txt) (hs : s.length ≤ 16) (h256 : (partsL s).length ≤ 256) (L : Nat) (h1 : 1 ≤ L) (hL : L ≤ 4) : ∀ (m n : Nat) (P : List Txt), n + m = 16 → 0 < P.length → P.length ≤ 4 ^ n → (∀ p ∈ P, p.length = n) →
  ∃ w : Txt, (w ≠ [] ∧ w ∉ partsL s) ∧ Ev (fun k => sF34.l0 k (L : Int) (P.map B) ((partsL s).map B)) (B w, true) ∧ Ev (fun k => iF8.l0 k (B s) (L : Int) (P.map B)) (B w, true) := by
 intro m
 induction m with
 | zero =>
  intro n P q1 q2 q3 q4
  have hn : n = 16 := by omega
  subst hn
  have hP : P.length ≤ 4294967296 := Nat.le_trans q3 (by decide)
  have hc := cand_length L P
  have hpos : 0 < (cand L P).length := by rw [hc]; exact Nat.mul_pos h1 q2
  have hall : ∀ w ∈ cand L P, bad s w = true := fun w hw => by
   have := cand_len1 L 16 P q4 w hw
   unfold bad
   rw [Bool.not_eq_true', decide_eq_false_iff_not]
   intro hm
   have := (mem_partsL hm).1
   omega
  obtain ⟨w, r, hwr⟩ : ∃ w r, cand L P = w :: r := by
   cases h : cand L P with
   | nil => rw [h] at hpos; simp at hpos
   | cons w r => exact ⟨w, r, rfl⟩
  have hf : (cand L P).find? (bad s) = some w := by rw [hwr]; exact List.find?_cons_of_pos (hall w (by rw [hwr]; simp))
  refine ⟨w, found_out q4 hf, ?_, ?_⟩
  ·
   refine Ev.step (fun k => sF34.l0.eq_2 ..) ?_
   exact spec_lev s h256 L hL P hP (fun p hp => by rw [q4 p hp]; omega) _ P.length 0 [] (by omega) (by simp) (by rw [List.drop_zero, hf])
  refine Ev.step (fun k => iF8.l0.eq_2 ..) ?_
  rw [List.length_map]
  exact impl_lev s hs L hL P hP (fun p hp => by rw [q4 p hp]; omega) _ P.length 0 [] (by omega) (by simp) (by rw [List.drop_zero, hf])
 | succ m ih =>
  intro n P q1 q2 q3 q4
  have hP : P.length ≤ 4294967296 := Nat.le_trans q3 (Nat.le_trans (Nat.pow_le_pow_right (by omega) (show n ≤ 16 by omega)) (by decide))
  have hc := cand_length L P
  cases hf : (cand L P).find? (bad s) with
  | some w =>
   refine ⟨w, found_out q4 hf, ?_, ?_⟩
   ·
    refine Ev.step (fun k => sF34.l0.eq_2 ..) ?_
    exact spec_lev s h256 L hL P hP (fun p hp => by rw [q4 p hp]; omega) _ P.length 0 [] (by omega) (by simp) (by rw [List.drop_zero, hf])
   refine Ev.step (fun k => iF8.l0.eq_2 ..) ?_
   rw [List.length_map]
   exact impl_lev s hs L hL P hP (fun p hp => by rw [q4 p hp]; omega) _ P.length 0 [] (by omega) (by simp) (by rw [List.drop_zero, hf])
  | none =>
   obtain ⟨w, e0, e1, e2⟩ := ih (n + 1) (cand L P) (by omega) (by rw [hc]; exact Nat.mul_pos h1 q2) (by rw [hc, Nat.pow_succ, Nat.mul_comm]; exact Nat.mul_le_mul q3 hL) (cand_len1 L n P q4)
   refine ⟨w, e0, ?_, ?_⟩
   ·
    refine Ev.step (fun k => sF34.l0.eq_2 ..) ?_
    exact spec_lev s h256 L hL P hP (fun p hp => by rw [q4 p hp]; omega) _ P.length 0 [] (by omega) (by simp) (by rw [List.drop_zero, hf]; exact e1)
   refine Ev.step (fun k => iF8.l0.eq_2 ..) ?_
   rw [List.length_map]
   exact impl_lev s hs L hL P hP (fun p hp => by rw [q4 p hp]; omega) _ P.length 0 [] (by omega) (by simp) (by rw [List.drop_zero, hf]; exact e2)
theorem in14 (m : Int) : iF16.f m 1 4 = some (decide (1 ≤ m ∧ m ≤ 4)) ∧ sF45.f m 1 4 = some (decide (1 ≤ m ∧ m ≤ 4)) := by
 unfold iF16.f sF45.f
 by_cases h1 : 1 ≤ m
 ·
  by_cases h2 : m ≤ 4
  ·
   simp [h1, h2]
  simp [h1, h2]
 simp [h1]
theorem both (s : Txt) (hs : s.length ≤ 1048576) (m : Int) : ∃ r : ByteArray × Bool, Ev (fun k => sF34.f k (B s) m) r ∧ Ev (fun k => iF8.f k (B s) m) r ∧ (r.2 = true → text8 s = true ∧ ∃ w : Txt, r.1 = B w ∧ w ≠ [] ∧ w ∉ partsL s) := by
 have e1 := l8Text_ev s (by omega)
 obtain ⟨i1, i2⟩ := in14 m
 have s0 : Ev (fun k => sF34.j0 k (B s) m true) (⟨#[]⟩, false) := Ev.step (fun k => sF34.j0.eq_2 ..) (Ev.ifT rfl (Ev.now _))
 have j0 : Ev (fun k => iF8.j0 k (B s) m true) (⟨#[]⟩, false) := Ev.step (fun k => iF8.j0.eq_2 ..) (Ev.ifT rfl (Ev.now _))
 unfold sF34.f iF8.f
 rw [isText_eq, i1, i2]
 cases h1 : text8 s with
 | false =>
  rw [h1] at e1
  exact ⟨(⟨#[]⟩, false), Ev.bind e1 (Ev.ifF (by simp) s0), Ev.some_bind (Ev.ifF (by simp) j0), fun h => by cases h⟩
 | true =>
  rw [h1] at e1
  have h16 : s.length ≤ 16 := by unfold text8 at h1; simp at h1; exact h1.2
  have h256 := partsL_length s h16
  by_cases hm : 1 ≤ m ∧ m ≤ 4
  ·
   rw [decide_eq_true hm]
   obtain ⟨L, rfl⟩ : ∃ L : Nat, m = (L : Int) := ⟨m.toNat, by omega⟩
   obtain ⟨w, w0, w1, w2⟩ := levels s h16 h256 L (by omega) (by omega) 16 0 [[]] rfl (by simp) (by simp) (by simp)
   refine ⟨(B w, true), Ev.bind e1 (Ev.ifT rfl (Ev.some_bind (Ev.step (fun k => sF34.j0.eq_2 ..) (Ev.ifF (by simp) (Ev.bind (l8Parts_ev s h16) w1))))), Ev.some_bind (Ev.ifT rfl (Ev.some_bind (Ev.step (fun k => iF8.j0.eq_2 ..) (Ev.ifF (by simp) w2)))), fun _ => ⟨rfl, w, rfl, w0⟩⟩
  rw [decide_eq_false hm]
  exact ⟨(⟨#[]⟩, false), Ev.bind e1 (Ev.ifT rfl (Ev.some_bind s0)), Ev.some_bind (Ev.ifT rfl (Ev.some_bind j0)), fun h => by cases h⟩
end Absent
end Go.Proofs.YtblcdgnihmcdpaaGreatDoor.L
namespace Go.Proofs.YtblcdgnihmcdpaaGreatDoor.L
open Go.RowKit Go.Proofs.YtblcdgnihmcdpaaGreatDoor.P Go.Proofs.YtblcdgnihmcdpaaGreatDoor.M Go.Proofs.YtblcdgnihmcdpaaGreatDoorW.PrintWords Go.Proofs.YtblcdgnihmcdpaaGreatDoorW.PrintLast Go.Proofs.YtblcdgnihmcdpaaGreatDoorW.PrintMore
theorem longer_ge : ∀ (l : List Txt) (b : Txt), b.length ≤ (l.foldl longer b).length ∧ (∀ x ∈ l, x.length ≤ (l.foldl longer b).length) ∧ (l.foldl longer b = b ∨ l.foldl longer b ∈ l)
 | [], b => ⟨Nat.le_refl _, fun x h => by simp at h, .inl rfl⟩
 | x :: l, b => by
  obtain ⟨h1, h2, h3⟩ := longer_ge l (longer b x)
  rw [List.foldl_cons]
  have hb : b.length ≤ (longer b x).length ∧ x.length ≤ (longer b x).length ∧ (longer b x = b ∨ longer b x = x) := by
   unfold longer
   by_cases h : x.length > b.length
   ·
    rw [if_pos h]; exact ⟨by omega, by omega, .inr rfl⟩
   rw [if_neg h]; exact ⟨by omega, by omega, .inl rfl⟩
  refine ⟨by omega, fun y hy => ?_, ?_⟩
  ·
   rcases List.mem_cons.1 hy with rfl | hy
   ·
    omega
   exact h2 y hy
  rcases h3 with h3 | h3
  ·
   rcases hb.2.2 with e | e
   ·
    exact .inl (h3.trans e)
   exact .inr (by rw [h3, e]; exact List.mem_cons_self)
  exact .inr (List.mem_cons_of_mem _ h3)
theorem shorter_le : ∀ (l : List Txt) (b : Txt), (∀ x ∈ l, (l.foldl shorter b).length ≤ x.length) ∧ (l.foldl shorter b).length ≤ b.length ∧ (l.foldl shorter b = b ∨ l.foldl shorter b ∈ l)
 | [], b => ⟨fun x h => by simp at h, Nat.le_refl _, .inl rfl⟩
 | x :: l, b => by
  obtain ⟨h2, h1, h3⟩ := shorter_le l (shorter b x)
  rw [List.foldl_cons]
  have hb : (shorter b x).length ≤ b.length ∧ (shorter b x).length ≤ x.length ∧ (shorter b x = b ∨ shorter b x = x) := by
   unfold shorter
   by_cases h : x.length < b.length
   ·
    rw [if_pos h]; exact ⟨by omega, by omega, .inr rfl⟩
   rw [if_neg h]; exact ⟨by omega, by omega, .inl rfl⟩
  refine ⟨fun y hy => ?_, by omega, ?_⟩
  ·
   rcases List.mem_cons.1 hy with rfl | hy
   ·
    omega
   exact h2 y hy
  rcases h3 with h3 | h3
  ·
   rcases hb.2.2 with e | e
   ·
    exact .inl (h3.trans e)
   exact .inr (by rw [h3, e]; exact List.mem_cons_self)
  exact .inr (List.mem_cons_of_mem _ h3)
theorem rep_gt {s x : Txt} (hx : x ∈ partsL s) (h : x.length > (((partsL s).filter (qRep s)).foldl longer []).length) : ¬ ((occM s x).length : Int) > 1 := by
 intro hc
 have := (longer_ge ((partsL s).filter (qRep s)) []).2.1 x (List.mem_filter.2 ⟨hx, by unfold qRep; rw [decide_eq_true_eq]; omega⟩)
 omega
theorem rep_eq {s x : Txt} (hx : x ∈ partsL s) (h : x = ((partsL s).filter (qRep s)).foldl longer []) : ¬ ((occM s x).length : Int) < 2 := by
 rcases (longer_ge ((partsL s).filter (qRep s)) []).2.2 with e | e
 ·
  have := (mem_partsL hx).2
  rw [h, e] at this
  simp at this
 rw [← h, List.mem_filter] at e
 have h2 := e.2
 unfold qRep at h2
 rw [decide_eq_true_eq] at h2
 omega
theorem once_lt {s x : Txt} (hx : x ∈ partsL s) (h : x.length < (((partsL s).filter (qOnce s)).foldl shorter s).length) : ¬ ((occM s x).length : Int) < 2 := by
 intro hc
 have h1 := parts_occ hx
 have := (shorter_le ((partsL s).filter (qOnce s)) s).1 x (List.mem_filter.2 ⟨hx, by unfold qOnce; rw [decide_eq_true_eq]; omega⟩)
 omega
theorem once_occ {s : Txt} (hs : s ≠ []) : (occM s (((partsL s).filter (qOnce s)).foldl shorter s)).length = 1 ∧ ((partsL s).filter (qOnce s)).foldl shorter s ∈ partsL s := by
 rcases (shorter_le ((partsL s).filter (qOnce s)) s).2.2 with e | e
 ·
  rw [e]; exact ⟨occ_self s hs, self_mem hs⟩
 rw [List.mem_filter] at e
 have h2 := e.2
 unfold qOnce at h2
 rw [decide_eq_true_eq] at h2
 exact ⟨Int.ofNat.inj h2, e.1⟩
theorem common_comm (s t : Txt) : (partsL s).filter (CommonSub.inB t) = (partsL t).filter (CommonSub.inB s) := by
 have key : ∀ (s t x : Txt), x ∈ (partsL s).filter (CommonSub.inB t) → x ∈ (partsL t).filter (CommonSub.inB s) := fun s t x h => by
  rw [List.mem_filter] at h ⊢
  have h0 : x ≠ [] := List.length_pos_iff.1 (mem_partsL h.1).2
  have h2 := h.2
  unfold CommonSub.inB at h2 ⊢
  rw [decide_eq_true_eq] at h2 ⊢
  have := parts_occ h.1
  exact ⟨occ_part h0 (by omega), by omega⟩
 refine asc_ext _ _ (List.Pairwise.filter _ (asc_setL _)) (List.Pairwise.filter _ (asc_setL _)) fun y => ⟨key s t y, key t s y⟩
theorem rTexts_same (l : List ByteArray) (hl : l.length ≤ 1000000) : Ev (fun k => wF26.f k l l) true := by
 have key : ∀ d n, n + d = l.length → Ev (fun k => wF26.l0 k l l (n : Int)) true := by
  intro d
  induction d with
  | zero => intro n h; exact Ev.step (fun k => wF26.l0.eq_2 ..) (Ev.ifF (by omega) (Ev.now _))
  | succ d ih =>
   intro n h
   refine Ev.step (fun k => wF26.l0.eq_2 ..) (Ev.ifT (by omega) (Ev.ifT (by omega) (Ev.ifT (by omega) (Ev.ifT rfl ?_))))
   simpa only [wrap64_succ n (by omega)] using ih (n + 1) (by omega)
 unfold wF26.f
 exact Ev.ifT rfl (by simpa using key l.length 0 (by omega))
theorem rHas_in (l : List Txt) (hl : l.length ≤ 1000000) (x : Txt) (hx : x ∈ l) : Ev (fun k => wF25.f k (l.map B) (B x)) true := by
 have key : ∀ d n, n + d = l.length → x ∈ l.drop n → Ev (fun k => wF25.l0 k (l.map B) (B x) (n : Int)) true := by
  intro d
  induction d with
  | zero => intro n h h2; rw [List.drop_of_length_le (by omega)] at h2; simp at h2
  | succ d ih =>
   intro n h h2
   have h1 : n < l.length := by omega
   refine Ev.step (fun k => wF25.l0.eq_2 ..) (Ev.ifT (by rw [List.length_map]; omega) (Ev.ifT (by omega) ?_))
   rw [rdB l n h1]
   by_cases hc : (B (l.getD n [])).toList = (B x).toList
   ·
    exact Ev.ifT hc (Ev.now _)
   refine Ev.ifF hc ?_
   rw [drop_cons_getD [] h1] at h2
   rcases List.mem_cons.1 h2 with e | h2
   ·
    exact absurd (by rw [e]) hc
   simpa only [wrap64_succ n (by omega)] using ih (n + 1) (by omega) h2
 unfold wF25.f
 simpa using key l.length 0 (by omega) (by simpa using hx)
end Go.Proofs.YtblcdgnihmcdpaaGreatDoor.L
namespace Go.Proofs.YtblcdgnihmcdpaaGreatDoor.Pure
open Go.RowKit Go.Proofs.YtblcdgnihmcdpaaGreatDoor.P Go.Proofs.YtblcdgnihmcdpaaGreatDoor.M Go.Proofs.YtblcdgnihmcdpaaGreatDoorW.PrintWords Go.Proofs.YtblcdgnihmcdpaaGreatDoorW.PrintLast Go.Proofs.YtblcdgnihmcdpaaGreatDoorW.PrintMore
open Go.Proofs.YtblcdgnihmcdpaaGreatDoor.L
namespace Rep
theorem draw1 {l : List Int} (h : By l) : ∃ t : Txt, Ev (fun k => sF30.f k l) (B t) ∧ t.length ≤ 100 := by
 obtain ⟨t, a, s, e, h1, _⟩ := text_ev h 0 0 (by omega) (by omega)
 exact ⟨t, Ev.bind (a := B t) (Ev.bind e (Ev.now _)) (Ev.now _), h1⟩
theorem draw2 {l : List Int} (h : By l) : ∃ t u : Txt, Ev (fun k => sF28.f k l) (B t, B u) ∧ t.length ≤ 100 ∧ u.length ≤ 100 := by
 obtain ⟨t, a, s, e, h1, h2, h3⟩ := text_ev h 0 0 (by omega) (by omega)
 obtain ⟨u, a2, s2, e2, h4, _⟩ := text_ev h a s (by omega) (by omega)
 exact ⟨t, u, Ev.bind e (Ev.bind e2 (Ev.now _)), h1, h4⟩
theorem draw3 {l : List Int} (h : By l) : ∃ (t : Txt) (m : Int), Ev (fun k => sF31.f k l) (B t, m) ∧ t.length ≤ 100 := by
 obtain ⟨m, a, s, e, _, h2, h3⟩ := among_ev h 0 0 [2, 3, 1, 4, 0, 5] (by omega) (by omega) (by simp)
 obtain ⟨u, a2, s2, e2, h4, _⟩ := text_ev h a s (by omega) (by omega)
 refine ⟨u, m, ?_, h4⟩
 unfold sF31.f
 rw [e]
 exact Ev.some_bind (Ev.bind e2 (Ev.now _))
theorem isText (s : Txt) : iF5.f (B s) = some (text8 s) := by unfold iF5.f; rw [isText_eq]; rfl
theorem sq_half {x : Txt} (h16 : x.length ≤ 16) (hq : qSquaresOf x = true) : ((x.length : Int) % 2) = 0 ∧ x.take (x.length / 2) = x.drop (x.length / 2) := by
 refine ⟨?_, by simpa [qSquaresOf] using hq⟩
 by_cases h : ((x.length : Int) % 2) = 0
 ·
  exact h
 rw [odd_not x h] at hq; cases hq
theorem last (s : Txt) (h1 : text8 s = true) (Q : List Txt) (hQ : Q = (partsL s).filter qSquaresOf) : ∀ d n, n + d = Q.length → Ev (fun k => wF23.l1 k (Q.map B) ((partsL s).map B) (n : Int)) true := by
 have h16 := text16 h1
 have h256 := partsL_length s h16
 have hl : Q.length ≤ 256 := by rw [hQ]; exact Nat.le_trans (List.length_filter_le _ _) h256
 intro d
 induction d with
 | zero => intro n h; exact Ev.step (fun k => wF23.l1.eq_2 ..) (Ev.ifF (by rw [List.length_map]; omega) (Ev.now _))
 | succ d ih =>
  intro n h
  have h2 : n < Q.length := by omega
  have hm : Q.getD n [] ∈ Q := by rw [getD_lt [] h2]; exact List.getElem_mem _
  have hm2 := hm
  rw [hQ, List.mem_filter, ← hQ] at hm2
  have hx16 : (Q.getD n []).length ≤ 16 := Nat.le_trans (mem_partsL hm2.1).1 h16
  obtain ⟨q1, q2⟩ := sq_half hx16 hm2.2
  refine Ev.step (fun k => wF23.l1.eq_2 ..) (Ev.ifT (by rw [List.length_map]; omega) (Ev.ifT (by omega) ?_))
  rw [rdB Q n h2]
  have tl := ih (n + 1) (by omega)
  generalize Q.getD n [] = x at hm2 hx16 q1 q2
  simp only [size_B, half x hx16]
  refine Ev.ifT q1 (Ev.ifT (by omega) (Ev.ifT (by omega) (Ev.ifT ?_ (Ev.bind (rHas_in (partsL s) (by omega) x hm2.1) (Ev.ifT rfl ?_)))))
  ·
   simp only [Int.toNat_natCast, extract_B, toList_B, List.drop_zero, Nat.sub_zero]
   rw [List.take_of_length_le (l := x.drop (x.length / 2)) (by simp)]
   exact q2
  simpa only [wrap64_succ n (by omega)] using tl
theorem each (s : Txt) (h1 : text8 s = true) (L O : Txt) (hL : L = ((partsL s).filter (qRep s)).foldl longer []) (hO : O = ((partsL s).filter (qOnce s)).foldl shorter s) : ∀ d n, n + d = (partsL s).length → Ev (fun k => wF23.l0 k (B s) (B L) (B O) (((partsL s).filter qSquaresOf).map B) ((partsL s).map B) (n : Int)) true := by
 have h16 := text16 h1
 have h256 := partsL_length s h16
 intro d
 induction d with
 | zero =>
  intro n h
  refine Ev.step (fun k => wF23.l0.eq_2 ..) (Ev.ifF (by rw [List.length_map]; omega) ?_)
  simpa using last s h1 _ rfl _ 0 (Nat.zero_add _)
 | succ d ih =>
  intro n h
  have h2 : n < (partsL s).length := by omega
  have hm : (partsL s).getD n [] ∈ partsL s := by rw [getD_lt [] h2]; exact List.getElem_mem _
  have tl := ih (n + 1) (by omega)
  refine Ev.step (fun k => wF23.l0.eq_2 ..) (Ev.ifT (by rw [List.length_map]; omega) (Ev.ifT (by omega) ?_))
  rw [rdB _ n h2]
  generalize (partsL s).getD n [] = x at hm
  have hx := mem_partsL hm
  have ho := (occ_both s x (by omega) (by omega)).2
  unfold resOcc at ho
  rw [if_pos ⟨h1, part_text h1 hm, List.length_pos_iff.1 hx.2⟩] at ho
  have f1 : ((B x).size : Int) > ((B L).size : Int) → ¬ ((occM s x).length : Int) > 1 := fun h => rep_gt hm (by rw [← hL]; simp at h; omega)
  have f2 : (B x).toList = (B L).toList → ¬ ((occM s x).length : Int) < 2 := fun h => rep_eq hm (by rw [← hL]; simpa using h)
  have f3 : ((B x).size : Int) < ((B O).size : Int) → ¬ ((occM s x).length : Int) < 2 := fun h => once_lt hm (by rw [← hO]; simp at h; omega)
  rw [wrap64_succ n (by omega)]
  refine Ev.bind ho (Ev.ifT rfl ?_)
  dsimp only
  by_cases c1 : ((B x).size : Int) > ((B L).size : Int)
  ·
   refine Ev.ifT c1 (Ev.ifF (f1 c1) ?_)
   by_cases c2 : (B x).toList = (B L).toList
   ·
    refine Ev.ifT c2 (Ev.ifF (f2 c2) ?_)
    by_cases c3 : ((B x).size : Int) < ((B O).size : Int)
    ·
     exact Ev.ifT c3 tl
    exact Ev.ifF c3 tl
   refine Ev.ifF c2 ?_
   by_cases c3 : ((B x).size : Int) < ((B O).size : Int)
   ·
    exact Ev.ifT c3 (Ev.ifF (f3 c3) tl)
   exact Ev.ifF c3 tl
  refine Ev.ifF c1 ?_
  by_cases c2 : (B x).toList = (B L).toList
  ·
   refine Ev.ifT c2 (Ev.ifF (f2 c2) ?_)
   by_cases c3 : ((B x).size : Int) < ((B O).size : Int)
   ·
    exact Ev.ifT c3 tl
   exact Ev.ifF c3 tl
  refine Ev.ifF c2 ?_
  by_cases c3 : ((B x).size : Int) < ((B O).size : Int)
  ·
   exact Ev.ifT c3 (Ev.ifF (f3 c3) tl)
  exact Ev.ifF c3 tl
end Rep
theorem FnRepeats : wF23.Pure := by
 intro l0 h1 h2 h3
 have hl := by_of h3
 obtain ⟨s, hs, s100⟩ := Rep.draw1 hl
 obtain ⟨a, b, hab, a100, b100⟩ := Rep.draw2 hl
 obtain ⟨x, m, hx, x100⟩ := Rep.draw3 hl
 obtain ⟨⟨L, ok⟩, lo1, lo2, lo3⟩ := long_both s (by omega)
 obtain ⟨⟨O, one⟩, on1, on2, on3⟩ := once_both s (by omega)
 obtain ⟨sq1, sq2⟩ := squares_both s (by omega)
 obtain ⟨tu1, tu2⟩ := turns_both s (by omega)
 obtain ⟨⟨C, four⟩, co1, co2, co3⟩ := CommonSub.both a b (by omega) (by omega)
 obtain ⟨⟨C', four'⟩, cp1, cp2, cp3⟩ := CommonSub.both b a (by omega) (by omega)
 obtain ⟨⟨A, five⟩, ab1, ab2, ab3⟩ := Absent.both x (by omega) m
 have hpal := pal_count s
 have hsub := subs_impl s
 have j9 : Ev (fun k => wF23.j9 k (B s) L ok O (resSquares8 s).1) true := by
  refine Ev.step (fun k => wF23.j9.eq_2 ..) ?_
  cases ok with
  | false => exact Ev.ifF (by simp) (Ev.now _)
  | true =>
   obtain ⟨t1, t2, t3⟩ := lo3 rfl
   have hne : s ≠ [] := List.length_pos_iff.1 (by omega)
   rcases on3 with ⟨_, _, e⟩ | ⟨e, _⟩
   ·
    simp only [Prod.mk.injEq] at e
    obtain ⟨rfl, _⟩ := e
    dsimp only at t3
    subst t3
    unfold resSub at hsub
    rw [if_pos t1] at hsub
    unfold resSquares8
    rw [if_pos t1]
    refine Ev.ifT rfl (Ev.bind hsub (Ev.ifT rfl ?_))
    simpa using Rep.each s t1 _ _ rfl rfl _ 0 (Nat.zero_add _)
   exact absurd ⟨t1, hne⟩ e
 have j8 : Ev (fun k => wF23.j8 k (B s) L ok O one (resSquares8 s).1) true := by
  refine Ev.step (fun k => wF23.j8.eq_2 ..) ?_
  rcases on3 with ⟨t1, t2, e⟩ | ⟨_, e⟩
  ·
   simp only [Prod.mk.injEq] at e
   obtain ⟨rfl, rfl⟩ := e
   obtain ⟨o1, o2⟩ := once_occ t2
   have o3 := mem_partsL o2
   have ho := (occ_both s (((partsL s).filter (qOnce s)).foldl shorter s) (by omega) (by omega)).2
   unfold resOcc at ho
   rw [if_pos ⟨t1, part_text t1 o2, List.length_pos_iff.1 o3.2⟩] at ho
   exact Ev.ifT rfl (Ev.bind ho (Ev.ifT rfl (Ev.ifT (by dsimp only; rw [o1]; rfl) j9)))
  dsimp only at e
  subst e
  exact Ev.ifF (by simp) j9
 have j7 : ∀ t : Bool, (t = true → five = true ∧ ∃ w, A = B w ∧ text8 w = true) → Ev (fun k => wF23.j7 k (B s) L ok O one (resSquares8 s).1 (B x) A t) true := fun t ht => by
  refine Ev.step (fun k => wF23.j7.eq_2 ..) ?_
  cases t with
  | false => exact Ev.ifF (by simp) j8
  | true =>
   obtain ⟨h5, w, rfl, w8⟩ := ht rfl
   obtain ⟨t1, w', e, w1, w2⟩ := ab3 h5
   obtain rfl := B_inj e
   have ho := (occ_both x w (by omega) (by have := text16 w8; omega)).2
   unfold resOcc at ho
   rw [if_pos ⟨t1, w8, w1⟩, no_occ w1 w2] at ho
   exact Ev.ifT rfl (Ev.bind ho (Ev.ifT rfl (Ev.ifT rfl j8)))
 have j6 : Ev (fun k => wF23.j6 k (B s) L ok O one (resSquares8 s).1 (B x) A five) true := by
  refine Ev.step (fun k => wF23.j6.eq_2 ..) ?_
  cases h5 : five with
  | false => rw [h5] at j7; exact Ev.ifF (by simp) (j7 false (fun h => by cases h))
  | true =>
   obtain ⟨w, e⟩ := exB A
   refine Ev.ifT rfl ?_
   rw [e, Rep.isText]
   refine Ev.some_bind ?_
   rw [← e]
   exact j7 (text8 w) (fun h => ⟨h5, w, e, h⟩)
 have j5 : Ev (fun k => wF23.j5 k (B s) L ok O one (resSquares8 s).1 (B a) (B b) C four (B x) A five false) true := by
  refine Ev.step (fun k => wF23.j5.eq_2 ..) (Ev.ifF (by simp) ?_)
  rcases co3 with ⟨t1, t2, e⟩ | ⟨_, e⟩
  ·
   rcases cp3 with ⟨_, _, e'⟩ | ⟨t3, _⟩
   ·
    simp only [Prod.mk.injEq] at e e'
    obtain ⟨rfl, rfl⟩ := e
    obtain ⟨rfl, rfl⟩ := e'
    exact Ev.ifT rfl (Ev.bind cp2 (Ev.ifT rfl (Ev.ifT (by dsimp only; rw [common_comm b a]) j6)))
   exact absurd ⟨t2, t1⟩ t3
  simp only [Prod.mk.injEq] at e
  obtain ⟨_, rfl⟩ := e
  exact Ev.ifF (by simp) j6
 have j4 : Ev (fun k => wF23.j4 k l0 (B s) L ok O one (resSquares8 s).1 (B a) (B b) C four false) true :=
  Ev.step (fun k => wF23.j4.eq_2 ..) (Ev.ifF (by simp) (Ev.bind hx (Ev.bind ab2 (Ev.bind ab1 (Ev.ifT rfl (by simpa using j5))))))
 have j3 : Ev (fun k => wF23.j3 k l0 (B s) L ok O one (resSquares8 s).1 false) true :=
  Ev.step (fun k => wF23.j3.eq_2 ..) (Ev.ifF (by simp) (Ev.bind hab (Ev.bind co2 (Ev.bind co1 (Ev.ifT rfl (by simpa using j4))))))
 have hq : (resSquares8 s).2 = text8 s := by unfold resSquares8; cases text8 s <;> rfl
 have ht : (resTurns8 s).2 = text8 s := by unfold resTurns8; cases text8 s <;> rfl
 have q256 : (resSquares8 s).1.length ≤ 1000000 := by
  unfold resSquares8
  by_cases h : text8 s = true
  ·
   rw [if_pos h, List.length_map]
   have := List.length_filter_le qSquaresOf (partsL s)
   have := partsL_length s (text16 h)
   omega
  rw [if_neg h]; simp
 have t256 : (resTurns8 s).1.length ≤ s.length ∧ (resTurns8 s).1.length ≤ 1000000 := by
  unfold resTurns8
  by_cases h : text8 s = true
  ·
   rw [if_pos h, List.length_map]; omega
  rw [if_neg h]; simp
 have j2 : Ev (fun k => wF23.j2 k l0 (B s) L ok O one (resSquares8 s).1 (resSquares8 s).2 false) true := by
  refine Ev.step (fun k => wF23.j2.eq_2 ..) (Ev.ifF (by simp) (Ev.bind tu2 (Ev.bind tu1 (Ev.ifF (by simp) (Ev.ifF (by rw [hq, ht]; simp) (Ev.bind (rTexts_same _ t256.2) (Ev.ifT rfl ?_)))))))
  have hd : decide (((resTurns8 s).1.length : Int) > ((B s).size : Int)) = false := dF_ (by rw [size_B]; omega)
  cases h8 : (resTurns8 s).2 with
  | false => exact Ev.ifF (by simp) j3
  | true => refine Ev.ifT rfl ?_; rw [hd]; exact j3
 have j1 : Ev (fun k => wF23.j1 k l0 (B s) L ok O one false) true := by
  refine Ev.step (fun k => wF23.j1.eq_2 ..) (Ev.ifF (by simp) (Ev.bind sq2 (Ev.bind sq1 (Ev.ifF (by simp) ?_))))
  rw [Rep.isText]
  exact Ev.some_bind (Ev.ifF (by rw [hq]; simp) (Ev.bind (rTexts_same _ q256) j2))
 have j0 : Ev (fun k => wF23.j0 k l0 (B s) L ok false) true :=
  Ev.step (fun k => wF23.j0.eq_2 ..) (Ev.ifF (by simp) (Ev.bind on2 (Ev.bind on1 (Ev.ifT rfl (by simpa using j1)))))
 refine Ev.rounds ?_
 unfold wF23.f wF24.f
 refine Ev.some_bind ?_
 by_cases hb : (l0.length : Int) > 65536
 ·
  exact Ev.ifT (by simpa using hb) (Ev.now _)
 exact Ev.ifF (by simpa using hb) (Ev.bind hs (Ev.bind lo2 (Ev.bind lo1 (Ev.ifT rfl (by simpa using j0)))))
end Go.Proofs.YtblcdgnihmcdpaaGreatDoor.Pure
namespace Go.Proofs.YtblcdgnihmcdpaaGreatDoor.fnRepeats
open Go.ChangeShapes Go.WideShapes Go.ChangeAt Go.RowKit
open Go.ChangeMaps (open_string shut_string)
def laidL : List (String × DataW Unit) := [("unicode/utf8.acceptRanges", Rows.laid_unicode_utf8_acceptRanges), ("unicode/utf8.first", Rows.laid_unicode_utf8_first)]
theorem own : ownKnob Tryz.prog.godebug = none := by kernel_rfl
theorem laidOut : laidOutB Tryz.prog = true := by kernel_rfl
def IsRow (k : IntKind) (w : World) (a : Option Addr) (len cap : Nat) (zs : List Int) : Prop :=
  (a = none ∧ len = 0 ∧ cap = 0 ∧ zs = []) ∨
  ∃ x, a = some x ∧ len ≤ cap ∧ cap ≤ maxLen ∧ zs.length = cap ∧ (∀ i, i < zs.length → w.cell? (x.add i) = some (.int k (zs.getD i 0))) ∧ ∀ n ∈ zs, (Lit.int k n).wf = true
theorem lifted (os : Os) (started : os.Started) (H : Type) (enc : TypeId × Value → H) :
    ReturnsInHanded {} Tryz.checked os 4 .any (fun w args => (Rows.fnRepeatsSpec.pre enc Tryz.prog Tryz.f4 [] false w args ∧ laidMetH Tryz.prog laidL w) ∧ sizedMet enc Tryz.prog Tryz.f4 (OpenSpec.ofChange Rows.fnRepeatsSpec) false w args) (Rows.fnRepeatsSpec.post enc Tryz.prog Tryz.f4 false true false false) := by
  refine returnsInHanded_of_calls (C := Tryz.checked) own started (by kernel_rfl)
    (ChangeSpec.witness_shaped (enc := enc) (C := Tryz.checked) (os := os) (X := fun w _ => laidMetH Tryz.prog laidL w) false (World.laidAll Tryz.prog os laidL) #[.slice none 0 0] 8 (World.laidAll_os _ _ _) (World.shaped_of_ZipB (by kernel_rfl) (by kernel_rfl)) (by kernel_rfl) (by kernel_rfl) (by kernel_rfl)
      (by rw [MakeChecks.laidMetH_plain _ _ _ (by kernel_rfl)]; exact laidMet_laidAll _ (by kernel_rfl) (by kernel_rfl))) ?_
  intro w_ tape_ i_ _ hsh _ hok_ hpre_ _
  obtain ⟨_, _, _, fn_, hfn_, _, _, _, _, hval0⟩ := hok_
  obtain rfl : fn_ = Tryz.f4 := Option.some.inj (hfn_.symm.trans Tryz.func4)
  obtain ⟨⟨⟨ds, gs, before, hw_, hcnd⟩, hL_⟩, hz_⟩ := hpre_
  have hsz0 := hz_.weights hw_
  have hW := DataW.Whole.of_heap (w' := w_.forCall tape_ i_) (by rfl) hw_
  generalize w_.heap.size = base at hval0
  generalize i_.args = args at hval0 hW hw_ hz_ ⊢
  refine Calls.mono (R := fun e W' => ∃ v, e = .returned v ∧ Rows.fnRepeatsSpec.post enc Tryz.prog Tryz.f4 false true false false (w_.forCall tape_ i_) args v W') ?_ (fun e W' ⟨v, he, hp⟩ => by subst he; exact ChangeSpec.post_blind hp)
  generalize w_.forCall tape_ i_ = W at hsh hval0 hW ⊢
  clear hw_ hz_ hL_
  have hsz : (DataW.weightsEach Tryz.prog (Tryz.f4.params.toList ++ Rows.fnRepeatsSpec.plain.varTypes Tryz.prog) (ds ++ gs)).all (· ≤ reachBytes) = true := hsz0
  have hval : ∀ (j : Nat) t v, Tryz.f4.params[j]? = some t → args[j]? = some v → Value.okWide Tryz.prog W .any base t v := hval0
  have hW' := hW
  obtain ⟨p, q, hA0, hV, rfl, hfz, hnd⟩ := hW
  have hA : DataW.TrodAll enc Tryz.prog W 0 (fun _ => true) true Tryz.f4.params.toList args.toList ds p := hA0
  rw [Tryz.params4] at hA hval hsz
  obtain ⟨v0, vs0, d0, ds0, p0, q0, hargs, rfl, rfl, h0, r0⟩ := trodAll_cons hA
  obtain ⟨rfl, rfl, rfl⟩ := trodAll_nil r0
  obtain rfl : args = #[v0] := by cases args; simp_all
  obtain ⟨rfl, rfl⟩ := trodVars_none hV
  obtain ⟨a0, len0, cap0, rfl⟩ := okWide_slice Tryz.underlying22 (hval 0 22 v0 rfl rfl)
  have k0 := h0
  have lt0 : ∀ x ∈ p0, x.block < W.heap.size := by obtain ⟨m, hm⟩ := k0; exact DataW.trod_lt m _ _ _ hm
  obtain ⟨z0, w0⟩ : ∃ zs, IsRow .u8 W a0 len0 cap0 zs := by
    obtain ⟨fuel, hf⟩ := h0
    rcases open_ints Tryz.underlying22 Tryz.underlying5 (by kernel_rfl) hf with ⟨hcs, _⟩ | ⟨x, l, c, zs, hcs, _, hl, hm, hz, _, hcell, hwz⟩
    · simp [Value.cells] at hcs
      obtain ⟨rfl, rfl, rfl⟩ := hcs
      exact ⟨[], .inl ⟨rfl, rfl, rfl, rfl⟩⟩
    · simp [Value.cells] at hcs
      obtain ⟨rfl, rfl, rfl⟩ := hcs
      exact ⟨zs, .inr ⟨_, rfl, hl, hm, by simpa using hz, hcell, hwz⟩⟩
  have y0 : len0 * 1 ≤ 140737488351232 := Go.Proofs.YtblcdgnihmcdpaaGreatDoorW.PrintWords.sized_ints hsz (j := 0) (t := 22) rfl rfl Tryz.underlying22 Tryz.underlying5 (by kernel_rfl) (by kernel_rfl) h0
  clear hA0 hval0 hsz0 hsz
  refine (P.wF23.walk Pure.FnRepeats a0 len0 cap0 z0 W (P.wF23.met W hsh) w0 y0).mono fun e W' ⟨he, bel⟩ => ?_
  subst he
  exact ⟨_, rfl, _, _, _, [], _, [], hW', trodAll_mk1 (shut_bool Tryz.underlying4 _), (trodAll_cons_mk (Below.trod laidOut (by kernel_rfl) (of_decide_eq_true (by kernel_rfl)) k0 bel lt0) trodAll_mk0), rfl, bel.frame _, fun h => by cases h⟩
theorem over : Rows.fnRepeatsRow.holds Tryz.pinned (OpenSpec.ofChange Rows.fnRepeatsSpec) :=
  OpenClaim.holds_of_wide 4 Tryz.f4 rfl rfl rfl rfl rfl rfl rfl ⟨rfl, rfl, rfl, rfl, rfl⟩ rfl rfl rfl rfl rfl (by kernel_rfl) Tryz.func4 (by kernel_rfl)
    (of_decide_eq_true (by kernel_rfl)) (by unfold Func.isWrapper; first | (rw [if_pos (by decide +kernel)]; kernel_rfl) | (rw [if_neg (by decide +kernel)]; exact ⟨rfl, rfl⟩))
    (fun os started H enc _ => lifted os started H enc)
theorem proved : Rows.FnRepeatsSaid := over
end Go.Proofs.YtblcdgnihmcdpaaGreatDoor.fnRepeats
namespace Go.Proofs.YtblcdgnihmcdpaaGreatDoor
theorem fnRepeats_holds : Rows.FnRepeatsSaid := fnRepeats.proved
theorem fnRepeats_card : Rows.FnRepeatsCardSaid :=
  Claim7.holds_tied_plain_at .later [] [.data, .pinned] true (true, "28a07fa796b5489754123ecca35107e9d4eb9ce22048ff1960d773fc28b8a10c") false
    fnRepeats_holds (fun _ h => by cases h) (by kernel_rfl) (fun _ h => by cases h) fnRepeats_row_tie rfl ⟨rfl, rfl⟩ (by kernel_rfl) rfl
    (fun f fn hf hfn => by
      obtain rfl : f = 4 := Option.some.inj ((show Tryz.prog.funcNamed "loop.example/g01243/laws.FnRepeats" = some 4 by kernel_rfl).symm.trans hf) |>.symm
      obtain rfl : fn = Tryz.f4 := (Option.some.inj (Tryz.func4.symm.trans hfn)).symm
      exact ⟨by kernel_rfl, fun j t ht => by
        rw [Tryz.params4] at ht
        have hm : t ∈ [22] := by simpa using Array.mem_of_getElem? ht
        have hall : ([22].all fun u => !Tryz.prog.wantsStandIn u) = true := by kernel_rfl
        exact (show Tryz.prog.wantsStandIn t = false by simpa using List.all_eq_true.1 hall t hm)⟩)
    (by kernel_rfl)
end Go.Proofs.YtblcdgnihmcdpaaGreatDoor
