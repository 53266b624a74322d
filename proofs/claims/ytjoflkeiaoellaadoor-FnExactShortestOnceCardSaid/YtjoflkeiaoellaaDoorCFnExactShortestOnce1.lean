/-
  Part 2 of the proof that FnExactShortestOnce returns true for every input: the functions that it reaches, each with its contract, and the law.
  Conditions: those of the given statement, no others.
-/
import Derived.Lib.SlicesCompact
import Derived.Test.YtjoflkeiaoellaaDoorRows
import Derived.WalkKit
import Derived.ProofKit
import Derived.OpenShut
import Derived.ShutString
import Derived.ChangeOld
import Derived.Below
import Derived.SizedLaws
import Derived.Lay
import Derived.LaidOnce
import Derived.SevenTiedAt
import Derived.Test.YtjoflkeiaoellaaDoorCards
import Derived.Test.YtjoflkeiaoellaaDoorTie
import Derived.Test.YtjoflkeiaoellaaDoorCFnExactShortestOnce0
namespace Go.Proofs.YtjoflkeiaoellaaDoor.P
open Go.RowKit Go.Proofs.YtjoflkeiaoellaaDoorW.PrintWords Go.Proofs.YtjoflkeiaoellaaDoorW.PrintLast Go.Proofs.YtjoflkeiaoellaaDoorW.PrintMore
attribute [local go_sem] max2_int min2_int max_two min_two max_three min_three max_four min_four   -- for this text's walks alone
set_option linter.unusedVariables false
set_option linter.unusedSimpArgs false

/-! ### laws_FnExactShortestOnce: function 11 -/
def laws_FnExactShortestOnce.f (k : Nat) (a0 : ByteArray) : Option (Bool) := if (a0.size : Int) > 1048576 then (some true) else ((spec_ShortestOnce.f k a0).bind fun bt443 => ((impl_ShortestOnce.f k a0).bind fun bt445 => (if bt445.1.toList = bt443.1.toList then (if (bt445.2 != bt443.2) = true then (some false) else (some true)) else (some false))))
theorem laws_FnExactShortestOnce.mono : ∀ a0 k, LeO (laws_FnExactShortestOnce.f k a0) (laws_FnExactShortestOnce.f (k + 1) a0) := by
  intro a0 k
  unfold laws_FnExactShortestOnce.f
  repeat' first
      | (with_reducible exact impl_ShortestOnce.mono _ _)
      | (with_reducible exact spec_ShortestOnce.mono _ _)
      | (with_reducible exact LeO.refl _)
      | (with_reducible exact LeO.none _)
      | (with_reducible refine LeO.ite ?_ ?_)
      | (with_reducible refine LeO.bind ?_ (fun _ => ?_))
      | exact impl_ShortestOnce.mono _ _
      | exact spec_ShortestOnce.mono _ _
      | exact LeO.none _
      | refine LeO.ite ?_ ?_
      | refine LeO.bind ?_ (fun _ => ?_)
set_option maxHeartbeats 8000000 in
set_option maxRecDepth 100000 in
theorem laws_FnExactShortestOnce.calls (k : Nat) (a0 : ByteArray) (r : Bool) (w : World) (h : laws_FnExactShortestOnce.f k a0 = some r) :
    Calls Tryd.prog 11 #[.string a0] w fun e w' => e = .returned (.bool r) ∧ Below w.heap.size w w' := by
  have HB := Aside0.mk (Below.refl w.heap.size w)
  have H : (if (a0.size : Int) > 1048576 then (some true) else ((spec_ShortestOnce.f k a0).bind fun bt443 => ((impl_ShortestOnce.f k a0).bind fun bt445 => (if bt445.1.toList = bt443.1.toList then (if (bt445.2 != bt443.2) = true then (some false) else (some true)) else (some false))))) = some r := h
  clear h
  by_cases c2 : (a0.size : Int) > 1048576
  · rw [if_pos c2] at H
    have c2b0 : decide (1048576 < (a0.size : Int)) = true := decide_eq_true c2
    have c2b1 : decide (1048576 < a0.size) = true := decide_eq_true (by omega)
    clear c2
    obtain rfl := Option.some.inj H
    go_enter Tryd.func11, Tryd.ntmps11
    go_wp2
    go_ret
    exact ⟨by first | rfl | (simp [errW_none, errW_some] <;> rfl) | (simp [*, errW_none, errW_some] <;> rfl), by repeat (first | (with_reducible first | exact HB.out | apply below_alloc | apply pw_below_drewN | apply below_drew1) | exact HB.out)⟩
  · rw [if_neg c2] at H
    have c2b0 : decide (1048576 < (a0.size : Int)) = false := decide_eq_false c2
    have c2b1 : decide (1048576 < a0.size) = false := decide_eq_false (by omega)
    clear c2
    replace H := Option.bind_eq_some_iff.mp H
    obtain ⟨⟨t443, t444⟩, A30, H⟩ := H
    replace H : ((impl_ShortestOnce.f k a0).bind fun bt445 => (if bt445.1.toList = t443.toList then (if (bt445.2 != t444) = true then (some false) else (some true)) else (some false))) = some r := H
    have A3 := Aside0.mk A30
    clear A30
    replace H := Option.bind_eq_some_iff.mp H
    obtain ⟨⟨t445, t446⟩, A40, H⟩ := H
    replace H : (if t445.toList = t443.toList then (if (t446 != t444) = true then (some false) else (some true)) else (some false)) = some r := H
    have A4 := Aside0.mk A40
    clear A40
    by_cases c5 : t445.toList = t443.toList
    · rw [if_pos c5] at H
      have c5b0 : (t445.toList == t443.toList) = true := beq_iff_eq.mpr c5
      have c5b1 : (t445.toList != t443.toList) = false := bne_eq_false_iff_eq.mpr c5
      clear c5
      by_cases c6 : (t446 != t444) = true
      · rw [if_pos c6] at H
        have c6b0 : (t446 != t444) = true := c6
        (try (have c6b1 : decide (t446 = t444) = false := by simpa using c6))
        (try (have c6b2 : (t446 == t444) = false := by simpa using c6))
        (try (have c6b3 : ¬ (t446 = t444) := by simpa using c6))
        clear c6
        obtain rfl := Option.some.inj H
        go_enter Tryd.func11, Tryd.ntmps11
        go_wp2_with (first | ((with_reducible refine gate_callee (f := 37) rfl ?_); refine goesL_ (some 12) rfl rfl Tryd.func37 (by kernel_rfl) rfl #[.string a0] rfl (by (try simp only [List.map_toArray, List.map_cons, List.map_nil]); first | done | rfl | (simp only [List.length_drop, List.length_take]; rfl)) ?_; (with_reducible refine (spec_ShortestOnce.calls k a0 t443 t444 _ A3.out).mono ?_); rintro e w7 ⟨rfl, hb⟩; refine ⟨_, rfl, ?_⟩; have n0_ := Aside0.mk (below_step (by repeat (first | (with_reducible first | exact HB.out | apply below_alloc | apply pw_below_drewN | apply below_drew1) | exact HB.out)) hb); clear HB; have HB := n0_; clear n0_; (try clear hb); (try clear hb2); (try clear hk); (try clear hi)) | ((with_reducible refine gate_callee (f := 38) rfl ?_); refine goesL_ (some 17) rfl rfl Tryd.func38 (by kernel_rfl) rfl #[.string a0] rfl (by (try simp only [List.map_toArray, List.map_cons, List.map_nil]); first | done | rfl | (simp only [List.length_drop, List.length_take]; rfl)) ?_; (with_reducible refine (impl_ShortestOnce.calls k a0 t445 t446 _ A4.out).mono ?_); rintro e w8 ⟨rfl, hb⟩; refine ⟨_, rfl, ?_⟩; have n0_ := Aside0.mk (below_step (by repeat (first | (with_reducible first | exact HB.out | apply below_alloc | apply pw_below_drewN | apply below_drew1) | exact HB.out)) hb); clear HB; have HB := n0_; clear n0_; (try clear hb); (try clear hb2); (try clear hk); (try clear hi)))
        go_ret
        exact ⟨by first | rfl | (simp [errW_none, errW_some] <;> rfl) | (simp [*, errW_none, errW_some] <;> rfl), by repeat (first | (with_reducible first | exact HB.out | apply below_alloc | apply pw_below_drewN | apply below_drew1) | exact HB.out)⟩
      · rw [if_neg c6] at H
        have c6b0 : (t446 != t444) = false := by simpa using c6
        (try (have c6b1 : decide (t446 = t444) = true := by simpa using c6))
        (try (have c6b2 : (t446 == t444) = true := by simpa using c6))
        clear c6
        obtain rfl := Option.some.inj H
        go_enter Tryd.func11, Tryd.ntmps11
        go_wp2_with (first | ((with_reducible refine gate_callee (f := 37) rfl ?_); refine goesL_ (some 12) rfl rfl Tryd.func37 (by kernel_rfl) rfl #[.string a0] rfl (by (try simp only [List.map_toArray, List.map_cons, List.map_nil]); first | done | rfl | (simp only [List.length_drop, List.length_take]; rfl)) ?_; (with_reducible refine (spec_ShortestOnce.calls k a0 t443 t444 _ A3.out).mono ?_); rintro e w9 ⟨rfl, hb⟩; refine ⟨_, rfl, ?_⟩; have n0_ := Aside0.mk (below_step (by repeat (first | (with_reducible first | exact HB.out | apply below_alloc | apply pw_below_drewN | apply below_drew1) | exact HB.out)) hb); clear HB; have HB := n0_; clear n0_; (try clear hb); (try clear hb2); (try clear hk); (try clear hi)) | ((with_reducible refine gate_callee (f := 38) rfl ?_); refine goesL_ (some 17) rfl rfl Tryd.func38 (by kernel_rfl) rfl #[.string a0] rfl (by (try simp only [List.map_toArray, List.map_cons, List.map_nil]); first | done | rfl | (simp only [List.length_drop, List.length_take]; rfl)) ?_; (with_reducible refine (impl_ShortestOnce.calls k a0 t445 t446 _ A4.out).mono ?_); rintro e w10 ⟨rfl, hb⟩; refine ⟨_, rfl, ?_⟩; have n0_ := Aside0.mk (below_step (by repeat (first | (with_reducible first | exact HB.out | apply below_alloc | apply pw_below_drewN | apply below_drew1) | exact HB.out)) hb); clear HB; have HB := n0_; clear n0_; (try clear hb); (try clear hb2); (try clear hk); (try clear hi)))
        go_ret
        exact ⟨by first | rfl | (simp [errW_none, errW_some] <;> rfl) | (simp [*, errW_none, errW_some] <;> rfl), by repeat (first | (with_reducible first | exact HB.out | apply below_alloc | apply pw_below_drewN | apply below_drew1) | exact HB.out)⟩
    · rw [if_neg c5] at H
      have c5b0 : (t445.toList == t443.toList) = false := beq_eq_false_iff_ne.mpr c5
      have c5b1 : (t445.toList != t443.toList) = true := bne_iff_ne.mpr c5
      obtain rfl := Option.some.inj H
      go_enter Tryd.func11, Tryd.ntmps11
      go_wp2_with (first | ((with_reducible refine gate_callee (f := 37) rfl ?_); refine goesL_ (some 12) rfl rfl Tryd.func37 (by kernel_rfl) rfl #[.string a0] rfl (by (try simp only [List.map_toArray, List.map_cons, List.map_nil]); first | done | rfl | (simp only [List.length_drop, List.length_take]; rfl)) ?_; (with_reducible refine (spec_ShortestOnce.calls k a0 t443 t444 _ A3.out).mono ?_); rintro e w11 ⟨rfl, hb⟩; refine ⟨_, rfl, ?_⟩; have n0_ := Aside0.mk (below_step (by repeat (first | (with_reducible first | exact HB.out | apply below_alloc | apply pw_below_drewN | apply below_drew1) | exact HB.out)) hb); clear HB; have HB := n0_; clear n0_; (try clear hb); (try clear hb2); (try clear hk); (try clear hi)) | ((with_reducible refine gate_callee (f := 38) rfl ?_); refine goesL_ (some 17) rfl rfl Tryd.func38 (by kernel_rfl) rfl #[.string a0] rfl (by (try simp only [List.map_toArray, List.map_cons, List.map_nil]); first | done | rfl | (simp only [List.length_drop, List.length_take]; rfl)) ?_; (with_reducible refine (impl_ShortestOnce.calls k a0 t445 t446 _ A4.out).mono ?_); rintro e w12 ⟨rfl, hb⟩; refine ⟨_, rfl, ?_⟩; have n0_ := Aside0.mk (below_step (by repeat (first | (with_reducible first | exact HB.out | apply below_alloc | apply pw_below_drewN | apply below_drew1) | exact HB.out)) hb); clear HB; have HB := n0_; clear n0_; (try clear hb); (try clear hb2); (try clear hk); (try clear hi)))
      go_ret
      exact ⟨by first | rfl | (simp [errW_none, errW_some] <;> rfl) | (simp [*, errW_none, errW_some] <;> rfl), by repeat (first | (with_reducible first | exact HB.out | apply below_alloc | apply pw_below_drewN | apply below_drew1) | exact HB.out)⟩

/-- THE ONE PURE STATEMENT of laws_FnExactShortestOnce: yours. -/
def laws_FnExactShortestOnce.Pure : Prop := ∀ (a0 : ByteArray), a0.size ≤ 140737488351232 → ∃ k, laws_FnExactShortestOnce.f k a0 = some true
theorem laws_FnExactShortestOnce.walk (P : laws_FnExactShortestOnce.Pure) (a0 : ByteArray) (w : World) (w0 : a0.size ≤ 140737488351232) :
    Calls Tryd.prog 11 #[.string a0] w fun e w' => e = .returned (.bool true) ∧ Below w.heap.size w w' := by
  obtain ⟨k, h⟩ := P a0 w0
  refine (laws_FnExactShortestOnce.calls k a0 true w h).mono ?_
  rintro e w' ⟨rfl, hd⟩
  exact ⟨rfl, hd⟩

end Go.Proofs.YtjoflkeiaoellaaDoor.P

namespace Go.Proofs.YtjoflkeiaoellaaDoor.M
open Go.Lib
theorem keeps_iff (d : Array Txt) (j : Nat) : keeps d j = true ↔ (j = 0 ∨ d[j]! ≠ d[j - 1]!) := by simp [keeps]
theorem mem_compact (zs : List Txt) (y : Txt) : y ∈ compact zs ↔ y ∈ zs := by
  unfold compact compactUpTo
  simp only [List.mem_map, List.mem_filter, List.mem_range]
  constructor
  · rintro ⟨j, ⟨hj, _⟩, rfl⟩
    rw [getElem!_pos zs.toArray j (by simpa using hj)]
    simp
  · intro hy
    have hex : ∃ n, ∃ h : n < zs.length, zs[n] = y := by
      obtain ⟨n, h, e⟩ := List.mem_iff_getElem.1 hy
      exact ⟨n, h, e⟩
    have key : ∀ n, (∃ h : n < zs.length, zs[n] = y) → ∃ m, m < zs.length ∧ keeps zs.toArray m = true ∧ zs.toArray[m]! = y := by
      intro n
      induction n with
      | zero => rintro ⟨h, e⟩; exact ⟨0, h, (keeps_iff _ _).2 (.inl rfl), by rw [getElem!_pos zs.toArray 0 (by simpa using h)]; simpa using e⟩
      | succ n ih =>
        rintro ⟨h, e⟩
        have e1 : zs.toArray[n + 1]! = y := by rw [getElem!_pos zs.toArray (n + 1) (by simpa using h)]; simpa using e
        by_cases hk : keeps zs.toArray (n + 1) = true
        · exact ⟨n + 1, h, hk, e1⟩
        · have : zs.toArray[n + 1]! = zs.toArray[n]! := by
            by_cases h9 : zs.toArray[n + 1]! = zs.toArray[n]!
            · exact h9
            · exact absurd ((keeps_iff _ _).2 (.inr h9)) hk
          refine ih ⟨by omega, ?_⟩
          have h2 : zs.toArray[n]! = zs[n] := by rw [getElem!_pos zs.toArray n (by simp; omega)]; simp
          rw [← h2, ← this, e1]
    obtain ⟨n, h⟩ := hex
    obtain ⟨m, h1, h2, h3⟩ := key n h
    exact ⟨m, ⟨h1, h2⟩, h3⟩
theorem pair_get {zs : List Txt} (h : zs.Pairwise (fun a b => decide (a ≤ b) = true)) {i j : Nat} (hij : i < j) (hj : j < zs.length) : zs.toArray[i]! ≤ zs.toArray[j]! := by
  have := List.pairwise_iff_getElem.1 h i j (by omega) hj hij
  rw [getElem!_pos zs.toArray i (by simp; omega), getElem!_pos zs.toArray j (by simpa using hj)]
  simpa using this
theorem asc_compact {zs : List Txt} (h : zs.Pairwise (fun a b => decide (a ≤ b) = true)) : Asc (compact zs) := by
  unfold Asc compact compactUpTo
  rw [List.pairwise_map]
  have h1 : ((List.range zs.length).filter (keeps zs.toArray)).Pairwise (· < ·) := List.Pairwise.filter _ List.pairwise_lt_range
  refine List.Pairwise.imp_of_mem ?_ h1
  intro a b ha hb hab
  rw [List.mem_filter, List.mem_range] at ha hb
  have hk := (keeps_iff _ _).1 hb.2
  have hne : zs.toArray[b]! ≠ zs.toArray[b - 1]! := by
    rcases hk with h0 | h0
    · omega
    · exact h0
  have h2 : zs.toArray[b - 1]! ≤ zs.toArray[b]! := pair_get h (by omega) hb.1
  have h3 : zs.toArray[a]! ≤ zs.toArray[b - 1]! := by
    by_cases e : a = b - 1
    · subst e; exact List.le_refl _
    · exact pair_get h (by omega) (by omega)
  have h4 : zs.toArray[b - 1]! < zs.toArray[b]! := by
    by_cases hlt : zs.toArray[b - 1]! < zs.toArray[b]!
    · exact hlt
    · exact absurd (List.le_antisymm (List.not_lt.1 hlt) h2) hne
  exact List.lt_of_le_of_lt h3 h4
theorem sorted_compact (l : List Txt) : compact (l.mergeSort fun x y => decide (x ≤ y)) = setL l := by
  have hp : (l.mergeSort fun x y => decide (x ≤ y)).Pairwise (fun a b => decide (a ≤ b) = true) := by
    refine List.pairwise_mergeSort ?_ ?_ l
    · intro a b c h1 h2
      simp only [decide_eq_true_eq] at h1 h2 ⊢
      exact List.le_trans h1 h2
    · intro a b
      simp only [Bool.or_eq_true, decide_eq_true_eq]
      exact List.le_total a b
  refine asc_ext _ _ (asc_compact hp) (asc_setL l) fun y => ?_
  rw [mem_compact, List.mem_mergeSort, mem_setL]

end Go.Proofs.YtjoflkeiaoellaaDoor.M

namespace Go.Proofs.YtjoflkeiaoellaaDoor.M
open Go.RowKit Go.Proofs.YtjoflkeiaoellaaDoorW.PrintWords
theorem rdB (l : List Txt) (n : Nat) (h : n < l.length) : rdOf ByteArray.empty (l.map B) (n : Int) = B (l.getD n []) := by
  simp [rdOf, List.getD_eq_getElem?_getD, h]
theorem exBs (l : List ByteArray) : ∃ m : List Txt, l = m.map B := ⟨l.map fun x => x.data.toList, by rw [List.map_map]; exact ((List.map_congr_left (fun x _ => B_data x)).trans (List.map_id _)).symm⟩
theorem map_B_inj {l m : List Txt} (h : l.map B = m.map B) : l = m := (List.map_inj_right (fun _ _ h => B_inj h)).1 h

end Go.Proofs.YtjoflkeiaoellaaDoor.M

namespace Go.Proofs.YtjoflkeiaoellaaDoor.L
open Go.RowKit Go.Proofs.YtjoflkeiaoellaaDoor.P Go.Proofs.YtjoflkeiaoellaaDoor.M Go.Proofs.YtjoflkeiaoellaaDoorW.PrintWords Go.Proofs.YtjoflkeiaoellaaDoorW.PrintLast Go.Proofs.YtjoflkeiaoellaaDoorW.PrintMore
set_option linter.unusedVariables false
def text8 (l : List UInt8) : Bool := l.all letterB && decide (l.length ≤ 16)
theorem l8Text_loop (l : List UInt8) (hl : l.length ≤ 4611686018427387903) : ∀ (d n : Nat), n + d = l.length → Ev (fun k => spec_l8Text.l0 k (B l) (n : Int)) ((l.drop n).all letterB && decide (l.length ≤ 16)) := by
  have last : ∀ n : Nat, Ev (fun k => spec_l8Text.j1 k (B l) (n : Int) false) (decide (l.length ≤ 16)) := by
    intro n
    refine Ev.step (fun k => spec_l8Text.j1.eq_2 ..) (Ev.ifF (by simp) ?_)
    have : decide (((B l).size : Int) ≤ 16) = decide (l.length ≤ 16) := by simp; omega
    rw [this]; exact Ev.now _
  intro d
  induction d with
  | zero =>
    intro n hn
    refine Ev.step (fun k => spec_l8Text.l0.eq_2 ..) (Ev.ifF (by simp; omega) ?_)
    rw [List.drop_of_length_le (by omega)]; simpa using last n
  | succ d ih =>
    intro n hn
    have h1 : n < l.length := by omega
    refine Ev.step (fun k => spec_l8Text.l0.eq_2 ..) (Ev.ifT (by simp; omega) ?_)
    rw [drop_cons_getD 0 h1]
    by_cases h16 : n ≤ 16
    · rw [show decide ((n : Int) ≤ 16) = true from by simp; omega]
      refine Ev.step (fun k => spec_l8Text.j1.eq_2 ..) (Ev.ifT rfl (Ev.ifT (by omega) (Ev.ifT (by simp; omega) ?_)))
      simp only [bt_B l n h1]
      by_cases ha : ((l.getD n 0).toNat : Int) < 97
      · refine Ev.ifT ha ?_
        have : letterB (l.getD n 0) = false := by simp only [letterB, decide_eq_false_iff_not]; omega
        simpa only [List.all_cons, this, Bool.false_and] using Ev.now false
      refine Ev.ifF ha ?_
      by_cases hz : ((l.getD n 0).toNat : Int) > 122
      · refine Ev.ifT hz ?_
        have : letterB (l.getD n 0) = false := by simp only [letterB, decide_eq_false_iff_not]; omega
        simpa only [List.all_cons, this, Bool.false_and] using Ev.now false
      refine Ev.ifF hz ?_
      have : letterB (l.getD n 0) = true := by simp only [letterB, decide_eq_true_eq]; omega
      simpa only [wrap64_succ n (by omega), List.all_cons, this, Bool.true_and] using ih (n + 1) (by omega)
    · rw [show decide ((n : Int) ≤ 16) = false from by simp; omega]
      have : ((l.getD n 0 :: l.drop (n + 1)).all letterB && decide (l.length ≤ 16)) = decide (l.length ≤ 16) := by
        have : decide (l.length ≤ 16) = false := by simp; omega
        rw [this]; simp
      rw [this]; exact last n
theorem l8Text_ev (l : List UInt8) (hl : l.length ≤ 4611686018427387903) : Ev (fun k => spec_l8Text.f k (B l)) (text8 l) := by
  simpa [spec_l8Text.f, text8] using l8Text_loop l hl l.length 0 (by omega)
theorem areLetters_eq (l : List UInt8) (hl : l.length ≤ 9223372036854775807) : impl_areLetters.f (B l) = some (l.all letterB) := by
  unfold impl_areLetters.f
  rw [if_pos (by simpa using hl), data_B]
  rfl
theorem isText_eq (l : List UInt8) : impl_isText.f (B l) = some (text8 l) := by
  unfold impl_isText.f text8
  by_cases h : l.length ≤ 16
  · rw [if_pos (by simp; omega), areLetters_eq l (by omega)]; simp [h]
  · rw [if_neg (by simp; omega)]; simp [h]

end Go.Proofs.YtjoflkeiaoellaaDoor.L

namespace Go.Proofs.YtjoflkeiaoellaaDoor.L
open Go.RowKit Go.Proofs.YtjoflkeiaoellaaDoor.P Go.Proofs.YtjoflkeiaoellaaDoor.M Go.Proofs.YtjoflkeiaoellaaDoorW.PrintWords Go.Proofs.YtjoflkeiaoellaaDoorW.PrintLast Go.Proofs.YtjoflkeiaoellaaDoorW.PrintMore
set_option linter.unusedVariables false
def colsL (s : Txt) (i : Nat) : Nat → Nat → List Txt
  | _, 0 => []
  | j, d + 1 => (s.drop i).take (j - i) :: colsL s i (j + 1) d
def rowsL (s : Txt) : Nat → Nat → List Txt
  | _, 0 => []
  | i, d + 1 => colsL s i (i + 1) (s.length - i) ++ rowsL s (i + 1) d
def rawL (s : Txt) : List Txt := rowsL s 0 s.length
def partsL (s : Txt) : List Txt := setL (rawL s)
theorem colsL_length (s : Txt) (i : Nat) : ∀ d j, (colsL s i j d).length = d
  | 0, _ => rfl
  | d + 1, j => by simp [colsL, colsL_length s i d (j + 1)]
theorem rowsL_length (s : Txt) : ∀ d i, i + d = s.length → (rowsL s i d).length ≤ d * s.length
  | 0, _, _ => by simp [rowsL]
  | d + 1, i, h => by
    have := rowsL_length s d (i + 1) (by omega)
    simp only [rowsL, List.length_append, colsL_length, Nat.succ_mul]; omega
theorem rawL_length (s : Txt) (h : s.length ≤ 16) : (rawL s).length ≤ 256 := by
  have h1 := rowsL_length s s.length 0 (by omega)
  have h2 : s.length * s.length ≤ 16 * 16 := Nat.mul_le_mul h h
  unfold rawL; omega
theorem mem_colsL (s : Txt) (i : Nat) : ∀ d j x, x ∈ colsL s i j d → x.length ≤ s.length ∧ (i < j → j + d ≤ s.length + 1 → 0 < x.length) ∧ ∃ m, j ≤ m ∧ m < j + d ∧ x = (s.drop i).take (m - i)
  | 0, _, _, h => by simp [colsL] at h
  | d + 1, j, x, h => by
    rcases List.mem_cons.1 h with rfl | h
    · exact ⟨by simp; omega, fun h1 h2 => by simp; omega, j, Nat.le_refl _, by omega, rfl⟩
    · obtain ⟨h1, h2, m, h3, h4, h5⟩ := mem_colsL s i d (j + 1) x h
      exact ⟨h1, fun h6 h7 => h2 (by omega) (by omega), m, by omega, by omega, h5⟩
theorem mem_rowsL (s : Txt) : ∀ d i x, i + d = s.length → x ∈ rowsL s i d → x.length ≤ s.length ∧ 0 < x.length
  | 0, _, _, _, h => by simp [rowsL] at h
  | d + 1, i, x, hd, h => by
    rcases List.mem_append.1 h with h | h
    · obtain ⟨h1, h2, _⟩ := mem_colsL s i _ _ x h
      exact ⟨h1, h2 (by omega) (by omega)⟩
    · exact mem_rowsL s d (i + 1) x (by omega) h
theorem mem_partsL {s x : Txt} (h : x ∈ partsL s) : x.length ≤ s.length ∧ 0 < x.length := mem_rowsL s _ 0 x (by omega) ((mem_setL _ _).1 h)
theorem foldl_putL_length : ∀ (l acc : List Txt), (l.foldl putL acc).length ≤ acc.length + l.length
  | [], _ => Nat.le_refl _
  | x :: l, acc => by
    have h1 := foldl_putL_length l (putL acc x)
    have h2 := putL_length_le acc x
    rw [List.foldl_cons, List.length_cons]; omega
theorem partsL_length (s : Txt) (h : s.length ≤ 16) : (partsL s).length ≤ 256 := by
  have h1 := foldl_putL_length (rawL s) []
  have h2 := rawL_length s h
  unfold partsL setL; simp at h1; omega
theorem map_data (l : List Txt) : (l.map B).map (fun x => x.data.toList) = l := by
  rw [List.map_map]
  exact (List.map_congr_left (fun x _ => data_B x)).trans (List.map_id _)
theorem l2Put_eq (l : List Txt) (w : Txt) (h : l.length ≤ 4294967296) (h2 : ∀ x ∈ l, x.length ≤ 4611686018427387900) : spec_l2Put.f (l.map B) (B w) = some ((putL l w).map B) := by
  have hall : ((l.map B).all fun x => decide (x.size ≤ 4611686018427387900)) = true := List.all_eq_true.2 fun x hx => by
    obtain ⟨y, hy, rfl⟩ := List.mem_map.1 hx
    simpa using h2 y hy
  unfold spec_l2Put.f
  rw [map_data, data_B, if_pos ⟨by simpa using h, hall⟩]
theorem set_eq (l : List Txt) (h : l.length ≤ 4294967296) : impl_set.f (l.map B) = some ((setL l).map B) := by
  unfold impl_set.f
  rw [if_pos (by simpa using h), map_data, sorted_compact]
  rfl
theorem piece_B (s : Txt) (i j : Nat) : (B s).extract (i : Int).toNat (j : Int).toNat = B ((s.drop i).take (j - i)) := by simp
theorem impl_cols (s : Txt) (hs : s.length ≤ 16) (i : Nat) (hi : i < s.length) (r : List ByteArray) (acc2 : List Txt) (hr : Ev (fun k => impl_substrings.l0 k (B s) (acc2.map B) (s.length : Int) ((i + 1 : Nat) : Int)) r) :
    ∀ d j acc, i < j → j + d = s.length + 1 → acc ++ colsL s i j d = acc2 → acc2.length ≤ 4000 → Ev (fun k => impl_substrings.l1 k (B s) (acc.map B) (i : Int) (j : Int) (s.length : Int) (i : Int)) r := by
  intro d
  induction d with
  | zero =>
    intro j acc h1 h2 h3 h4
    simp only [colsL, List.append_nil] at h3
    subst h3
    refine Ev.step (fun k => impl_substrings.l1.eq_2 ..) (Ev.ifF (by simp; omega) ?_)
    simpa only [wrap64_succ i (by omega)] using hr
  | succ d ih =>
    intro j acc h1 h2 h3 h4
    have hl : acc.length ≤ 4000 := by rw [← h3] at h4; simp at h4; omega
    refine Ev.step (fun k => impl_substrings.l1.eq_2 ..) (Ev.ifT (by simp; omega) (Ev.ifT (by omega) (Ev.ifT (by omega) (Ev.ifT (by simp; omega) ?_))))
    rw [piece_B]
    have := ih (j + 1) (acc ++ [(s.drop i).take (j - i)]) (by omega) (by omega) (by rw [← h3]; simp [colsL]) h4
    simpa only [wrap64_succ j (by omega), List.map_append, List.map_cons, List.map_nil] using this
theorem impl_rows (s : Txt) (hs : s.length ≤ 16) (all : List Txt) (hall : all.length ≤ 4000) : ∀ d i acc, i + d = s.length → acc ++ rowsL s i d = all → Ev (fun k => impl_substrings.l0 k (B s) (acc.map B) (s.length : Int) (i : Int)) ((setL all).map B) := by
  intro d
  induction d with
  | zero =>
    intro i acc h1 h2
    simp only [rowsL, List.append_nil] at h2
    subst h2
    refine Ev.step (fun k => impl_substrings.l0.eq_2 ..) (Ev.ifF (by omega) ?_)
    rw [set_eq acc (by omega)]
    exact Ev.some_bind (Ev.now _)
  | succ d ih =>
    intro i acc h1 h2
    refine Ev.step (fun k => impl_substrings.l0.eq_2 ..) (Ev.ifT (by omega) ?_)
    have h3 : (acc ++ colsL s i (i + 1) (s.length - i)) ++ rowsL s (i + 1) d = all := by rw [← h2]; simp [rowsL]
    have hr := ih (i + 1) _ (by omega) h3
    have := impl_cols s hs i (by omega) _ _ hr (s.length - i) (i + 1) acc (by omega) (by omega) rfl (by rw [← h3] at hall; simp at hall ⊢; omega)
    simpa only [wrap64_succ i (by omega)] using this
theorem substrings_ev (s : Txt) (hs : s.length ≤ 16) : Ev (fun k => impl_substrings.f k (B s)) ((partsL s).map B) := by
  have := impl_rows s hs (rawL s) (by have := rawL_length s hs; omega) s.length 0 [] (by omega) rfl
  simpa [impl_substrings.f, partsL] using this
theorem spec_cols (s : Txt) (hs : s.length ≤ 16) (i : Nat) (hi : i < s.length) (r : List ByteArray) (acc2 : List Txt) (hr : Ev (fun k => spec_l8Parts.l0 k (B s) (acc2.map B) ((i + 1 : Nat) : Int)) r) :
    ∀ d j acc, i < j → j + d = s.length + 1 → (colsL s i j d).foldl putL acc = acc2 → acc.length + d ≤ 4000 → (∀ x ∈ acc, x.length ≤ 16) → Ev (fun k => spec_l8Parts.l1 k (B s) (acc.map B) (i : Int) (j : Int)) r := by
  intro d
  induction d with
  | zero =>
    intro j acc h1 h2 h3 h4 h5
    simp only [colsL, List.foldl_nil] at h3
    subst h3
    refine Ev.step (fun k => spec_l8Parts.l1.eq_2 ..) (Ev.ifF (by simp; omega) ?_)
    simpa only [wrap64_succ i (by omega)] using hr
  | succ d ih =>
    intro j acc h1 h2 h3 h4 h5
    refine Ev.step (fun k => spec_l8Parts.l1.eq_2 ..) (Ev.ifT (by simp; omega) (Ev.ifT (by omega) (Ev.ifT (by omega) ?_)))
    rw [piece_B, l2Put_eq acc _ (by omega) (fun x hx => by have := h5 x hx; omega)]
    refine Ev.some_bind ?_
    have h6 := putL_length_le acc ((s.drop i).take (j - i))
    have := ih (j + 1) (putL acc ((s.drop i).take (j - i))) (by omega) (by omega) (by rw [← h3]; rfl) (by omega) (fun x hx => by
      rcases (mem_putL _ _ _).1 hx with rfl | hx
      · simp; omega
      · exact h5 x hx)
    simpa only [wrap64_succ j (by omega)] using this
theorem spec_rows (s : Txt) (hs : s.length ≤ 16) (all : List Txt) : ∀ d i acc, i + d = s.length → (rowsL s i d).foldl putL acc = all → acc.length + d * s.length ≤ 4000 → (∀ x ∈ acc, x.length ≤ 16) → Ev (fun k => spec_l8Parts.l0 k (B s) (acc.map B) (i : Int)) (all.map B) := by
  intro d
  induction d with
  | zero =>
    intro i acc h1 h2 h3 h4
    simp only [rowsL, List.foldl_nil] at h2
    subst h2
    exact Ev.step (fun k => spec_l8Parts.l0.eq_2 ..) (Ev.ifF (by simp; omega) (Ev.now _))
  | succ d ih =>
    intro i acc h1 h2 h3 h4
    rw [Nat.succ_mul] at h3
    refine Ev.step (fun k => spec_l8Parts.l0.eq_2 ..) (Ev.ifT (by simp; omega) ?_)
    have h5 : (rowsL s (i + 1) d).foldl putL ((colsL s i (i + 1) (s.length - i)).foldl putL acc) = all := by rw [← h2, rowsL, List.foldl_append]
    have h6 := foldl_putL_length (colsL s i (i + 1) (s.length - i)) acc
    rw [colsL_length] at h6
    have hr := ih (i + 1) _ (by omega) h5 (by omega) (fun x hx => by
      rcases (foldl_putL_mem _ _ _).1 hx with hx | hx
      · have := (mem_colsL s i _ _ x hx).1; omega
      · exact h4 x hx)
    have := spec_cols s hs i (by omega) _ _ hr (s.length - i) (i + 1) acc (by omega) (by omega) rfl (by omega) h4
    simpa only [wrap64_succ i (by omega)] using this
theorem l8Parts_ev (s : Txt) (hs : s.length ≤ 16) : Ev (fun k => spec_l8Parts.f k (B s)) ((partsL s).map B) := by
  have h2 : s.length * s.length ≤ 16 * 16 := Nat.mul_le_mul hs hs
  have := spec_rows s hs (partsL s) s.length 0 [] (by omega) rfl (by simp; omega) (by simp)
  simpa [spec_l8Parts.f] using this

end Go.Proofs.YtjoflkeiaoellaaDoor.L

namespace Go.Proofs.YtjoflkeiaoellaaDoor.L
open Go.RowKit Go.Proofs.YtjoflkeiaoellaaDoor.P Go.Proofs.YtjoflkeiaoellaaDoor.M Go.Proofs.YtjoflkeiaoellaaDoorW.PrintWords Go.Proofs.YtjoflkeiaoellaaDoorW.PrintLast Go.Proofs.YtjoflkeiaoellaaDoorW.PrintMore
set_option linter.unusedVariables false
def hasPre (s p : List UInt8) : Bool := s.take p.length == p
theorem HasPrefix_eq (s p : List UInt8) (hs : s.length ≤ 4611686018427387900) (hp : p.length ≤ 4611686018427387900) : strings_HasPrefix.f (B s) (B p) = some (hasPre s p) := by
  unfold strings_HasPrefix.f stringslite_HasPrefix.f hasPre
  by_cases h : p.length ≤ s.length
  · rw [if_pos (by simp; omega), if_pos (by omega), if_pos (by simp; omega)]; simp
  · rw [if_neg (by simp; omega)]
    have : (s.take p.length == p) = false := by
      simp only [beq_eq_false_iff_ne]
      intro e
      have := congrArg List.length e
      simp at this; omega
    simp [this]
/-- The places from n on. -/
def occFrom (s p : List UInt8) : Nat → Nat → List Int
  | _, 0 => []
  | n, d + 1 => (if hasPre (s.drop n) p = true then [(n : Int)] else []) ++ occFrom s p (n + 1) d
def occM (s p : List UInt8) : List Int := occFrom s p 0 (s.length + 1)
theorem occFrom_length (s p : List UInt8) : ∀ d n, (occFrom s p n d).length ≤ d := by
  intro d
  induction d with
  | zero => intro n; simp [occFrom]
  | succ d ih => intro n; have := ih (n + 1); simp only [occFrom, List.length_append]; split <;> simp <;> omega
theorem occM_length (s p : List UInt8) : (occM s p).length ≤ s.length + 1 := occFrom_length s p _ _
theorem hasPre_short {s p : List UInt8} (h : s.length < p.length) : hasPre s p = false := by
  simp only [hasPre, beq_eq_false_iff_ne]
  intro e
  have := congrArg List.length e
  simp at this; omega
theorem occFrom_none (s p : List UInt8) : ∀ d n, n + d = s.length + 1 → s.length < n + p.length → occFrom s p n d = [] := by
  intro d
  induction d with
  | zero => intro n _ _; rfl
  | succ d ih => intro n hd h; rw [occFrom, hasPre_short (by simp; omega), ih (n + 1) (by omega) (by omega)]; rfl
theorem occurs_loop (s p : List UInt8) (hs : s.length ≤ 1048576) (hp : p.length ≤ 1048576) : ∀ (d n : Nat) (acc : List Int), n + d = s.length + 1 → acc.length ≤ n → Ev (fun k => impl_occurs.l0 k (B s) (B p) acc ((s.length : Int) + 1) (n : Int)) (acc ++ occFrom s p n d) := by
  intro d
  induction d with
  | zero =>
    intro n acc h _
    refine Ev.step (fun k => impl_occurs.l0.eq_2 ..) (Ev.ifF (by omega) ?_)
    simpa [occFrom] using Ev.now acc
  | succ d ih =>
    intro n acc h ha
    refine Ev.step (fun k => impl_occurs.l0.eq_2 ..) (Ev.ifT (by omega) (Ev.ifT (by omega) (Ev.ifT (by simp; omega) ?_)))
    have he : (B s).extract (n : Int).toNat (B s).size = B (s.drop n) := by
      simp only [Int.toNat_natCast, extract_B, size_B]
      rw [List.take_of_length_le (by simp)]
    simp only [he, HasPrefix_eq (s.drop n) p (by simp; omega) (by omega)]
    refine Ev.some_bind ?_
    rw [occFrom]
    by_cases hh : hasPre (s.drop n) p = true
    · refine Ev.ifT hh (Ev.ifT (by omega) ?_)
      rw [if_pos hh, ← List.append_assoc]
      simpa only [wrap64_succ n (by omega)] using ih (n + 1) (acc ++ [(n : Int)]) (by omega) (by simp; omega)
    · refine Ev.ifF hh ?_
      rw [if_neg hh, List.nil_append]
      simpa only [wrap64_succ n (by omega)] using ih (n + 1) acc (by omega) (by omega)
theorem occurs_ev (s p : List UInt8) (hs : s.length ≤ 1048576) (hp : p.length ≤ 1048576) : Ev (fun k => impl_occurs.f k (B s) (B p)) (occM s p) := by
  have := occurs_loop s p hs hp (s.length + 1) 0 [] (by omega) (by simp)
  unfold impl_occurs.f
  rw [show wrap64 (((B s).size : Int) + 1) = (s.length : Int) + 1 from by rw [wrap64_id (by simp; omega) (by simp; omega)]; simp]
  simpa [occM] using this
theorem l8At_loop (s p : List UInt8) (hs : s.length ≤ 1048576) (hp : p.length ≤ 1048576) : ∀ (d n : Nat) (acc : List Int), n + d = s.length + 1 → acc.length ≤ n → Ev (fun k => spec_l8At.l0 k (B s) (B p) acc (n : Int)) (acc ++ occFrom s p n d) := by
  intro d
  induction d with
  | zero =>
    intro n acc h ha
    have hw : wrap64 ((n : Int) + ((B p).size : Int)) = (n : Int) + (p.length : Int) := by rw [wrap64_id (by simp; omega) (by simp; omega)]; simp
    refine Ev.step (fun k => spec_l8At.l0.eq_2 ..) ?_
    simp only [hw]
    refine Ev.ifF (by simp; omega) ?_
    simpa [occFrom] using Ev.now acc
  | succ d ih =>
    intro n acc h ha
    have hw : wrap64 ((n : Int) + ((B p).size : Int)) = (n : Int) + (p.length : Int) := by rw [wrap64_id (by simp; omega) (by simp; omega)]; simp
    refine Ev.step (fun k => spec_l8At.l0.eq_2 ..) ?_
    simp only [hw]
    by_cases hlen : n + p.length ≤ s.length
    · refine Ev.ifT (by simp; omega) (Ev.ifT (by omega) (Ev.ifT (by omega) ?_))
      have he : ((B s).extract (n : Int).toNat ((n : Int) + (p.length : Int)).toNat).toList = (s.drop n).take p.length := by
        rw [show ((n : Int) + (p.length : Int)).toNat = n + p.length from by omega]
        simp
      simp only [he, toList_B]
      rw [occFrom]
      by_cases hh : (s.drop n).take p.length = p
      · have hh2 : hasPre (s.drop n) p = true := by simp [hasPre, hh]
        refine Ev.ifT hh (Ev.ifT (by omega) ?_)
        rw [if_pos hh2, ← List.append_assoc]
        simpa only [wrap64_succ n (by omega)] using ih (n + 1) (acc ++ [(n : Int)]) (by omega) (by simp; omega)
      · have hh2 : ¬ hasPre (s.drop n) p = true := by simp [hasPre, hh]
        refine Ev.ifF hh ?_
        rw [if_neg hh2, List.nil_append]
        simpa only [wrap64_succ n (by omega)] using ih (n + 1) acc (by omega) (by omega)
    · refine Ev.ifF (by simp; omega) ?_
      rw [occFrom_none s p _ n (by omega) (by omega)]
      simpa using Ev.now acc
theorem l8At_ev (s p : List UInt8) (hs : s.length ≤ 1048576) (hp : p.length ≤ 1048576) : Ev (fun k => spec_l8At.f k (B s) (B p)) (occM s p) := by
  simpa [occM, spec_l8At.f] using l8At_loop s p hs hp (s.length + 1) 0 [] (by omega) (by simp)

end Go.Proofs.YtjoflkeiaoellaaDoor.L

namespace Go.Proofs.YtjoflkeiaoellaaDoor.P
open Go.RowKit Go.Proofs.YtjoflkeiaoellaaDoorW.PrintWords Go.Proofs.YtjoflkeiaoellaaDoorW.PrintLast Go.Proofs.YtjoflkeiaoellaaDoorW.PrintMore
attribute [local go_sem] max2_int min2_int max_two min_two max_three min_three max_four min_four   -- for this text's walks alone
set_option linter.unusedVariables false
set_option linter.unusedSimpArgs false

/-! ### impl_SubstringsOf: function 33 -/
def impl_SubstringsOf.f (k : Nat) (a0 : ByteArray) : Option (List ByteArray × Bool) := (impl_isText.f a0).bind fun t => if t = true then (impl_substrings.f k a0).bind fun zs => (if zs.length ≤ 9223372036854775807 then some (zs, true) else none) else some ([], false)
theorem impl_SubstringsOf.mono : ∀ a0 k, LeO (impl_SubstringsOf.f k a0) (impl_SubstringsOf.f (k + 1) a0) := by
  intro a0 k
  unfold impl_SubstringsOf.f
  repeat' first
  | (with_reducible exact LeO.refl _)
  | (with_reducible refine LeO.bind ?_ (fun _ => ?_))
  | (with_reducible refine LeO.ite ?_ ?_)
  | exact impl_substrings.mono _ _
  | exact LeO.refl _
set_option maxHeartbeats 1000000 in
theorem impl_SubstringsOf.lit (x : ByteArray) (W : World) : Calls Tryd.prog 62 (#[.string x] ++ #[]) W fun e W' => e = .returned (.bool true) ∧ Below W.heap.size W W' := by
  show Calls Tryd.prog 62 #[.string x] W _
  have HB := Aside0.mk (Below.refl W.heap.size W)
  go_enter Tryd.func62, Tryd.ntmps62
  go_wp2
  go_ret
  exact ⟨rfl, HB.out⟩
set_option maxHeartbeats 1000000 in
theorem impl_SubstringsOf.calls (k : Nat) (a0 : ByteArray) (r1 : List ByteArray) (r2 : Bool) (w : World) (h : impl_SubstringsOf.f k a0 = some (r1, r2)) :
    Calls Tryd.prog 33 #[.string a0] w fun e w' => ∃ v0_ : Value, e = .returned (.tuple #[v0_, .bool r2]) ∧ Kd.R Kd.string 9 w' w.heap.size (fun _ => True) v0_ r1 ∧ Below w.heap.size w w' := by
  have H : Aside0 (∃ zs : List ByteArray, zs.length ≤ 9223372036854775807 ∧ impl_isText.f a0 = some r2 ∧ (r2 = true → impl_substrings.f k a0 = some zs) ∧ r1 = if r2 = true then zs.filter (fun _ => true) else []) := by
    refine ⟨?_⟩
    unfold impl_SubstringsOf.f at h
    cases ht : impl_isText.f a0 with
    | none => rw [ht] at h; cases h
    | some t =>
      rw [ht, Option.bind_some] at h
      cases t with
      | false => simp at h; obtain ⟨rfl, rfl⟩ := h; exact ⟨[], by simp, rfl, by simp, rfl⟩
      | true =>
        rw [if_pos rfl] at h
        cases hs : impl_substrings.f k a0 with
        | none => rw [hs] at h; cases h
        | some zs =>
          rw [hs, Option.bind_some] at h
          by_cases hl : zs.length ≤ 9223372036854775807
          · rw [if_pos hl] at h; simp at h; obtain ⟨rfl, rfl⟩ := h; exact ⟨zs, hl, rfl, fun _ => rfl, by rw [if_pos rfl]; exact (List.filter_eq_self.2 (fun _ _ => rfl)).symm⟩
          · rw [if_neg hl] at h; cases h
  clear h
  obtain ⟨zs, hl, h1, h2, h3⟩ := H.out
  have HC := Aside0.mk (ChosenOf.calls (fun _ => true) 62 #[] (Go.Proofs.enters_of Tryd.func62 (by kernel_rfl) rfl) a0 r2 zs w hl (fun W => impl_isText.calls a0 r2 W h1) (fun e W => impl_substrings.calls k a0 zs W (h2 e)) (fun W x _ _ => impl_SubstringsOf.lit x W))
  rw [← h3] at HC
  clear H hl h1 h2 h3
  go_enter Tryd.func33, Tryd.ntmps33
  go_wp2_with fail
  refine HC.out.mono ?_
  clear HC
  rintro e w1 ⟨v, rfl, hr, hb⟩
  have H1 := Aside0.mk (And.intro hr hb)
  clear hr hb
  go_wp2_with fail
  go_ret2
  exact ⟨_, rfl, H1.out.1, H1.out.2⟩

end Go.Proofs.YtjoflkeiaoellaaDoor.P

namespace Go.Proofs.YtjoflkeiaoellaaDoor.L
open Go.RowKit Go.Proofs.YtjoflkeiaoellaaDoor.P Go.Proofs.YtjoflkeiaoellaaDoor.M Go.Proofs.YtjoflkeiaoellaaDoorW.PrintWords Go.Proofs.YtjoflkeiaoellaaDoorW.PrintLast Go.Proofs.YtjoflkeiaoellaaDoorW.PrintMore
set_option linter.unusedVariables false
theorem ev_all (f : Nat → ByteArray → Option Bool) (q : Txt → Bool) : ∀ (l : List Txt), (∀ x ∈ l, Ev (fun k => f k (B x)) (q x)) → ∃ K, ∀ k, K ≤ k → ∀ x ∈ l, f k (B x) = some (q x)
  | [], _ => ⟨0, fun _ _ x hx => absurd hx (by simp)⟩
  | y :: l, h => by
    obtain ⟨K1, h1⟩ := h y (by simp)
    obtain ⟨K2, h2⟩ := ev_all f q l (fun x hx => h x (by simp [hx]))
    refine ⟨K1 + K2, fun k hk x hx => ?_⟩
    rcases List.mem_cons.1 hx with rfl | hx
    · exact h1 k (by omega)
    · exact h2 k (by omega) x hx
theorem filt_ev (f : Nat → ByteArray → Option Bool) (q : Txt → Bool) (l : List Txt) (h : ∀ x ∈ l, Ev (fun k => f k (B x)) (q x)) : Ev (fun k => filt (f k) (l.map B)) ((l.filter q).map B) := by
  obtain ⟨K, hK⟩ := ev_all f q l h
  refine ⟨K, fun k hk => ?_⟩
  show filt (f k) (l.map B) = _
  rw [filt_of (fun b => q b.data.toList) (fun x hx => ?_), List.filter_map]
  · rw [List.filter_congr (q := q) (fun x _ => by simp)]
  · obtain ⟨y, hy, rfl⟩ := List.mem_map.1 hx
    rw [hK k hk y hy, data_B]
theorem chosen_ev (s : Txt) (h1 : text8 s = true) (h16 : s.length ≤ 16) (f : Nat → ByteArray → Option Bool) (q : Txt → Bool) (h : ∀ x ∈ partsL s, Ev (fun k => f k (B x)) (q x)) :
    Ev (fun k => ChosenOf.list (impl_isText.f (B s)) (impl_substrings.f k (B s)) (f k)) (((partsL s).filter q).map B, true) := by
  have h256 := partsL_length s h16
  unfold ChosenOf.list
  rw [isText_eq, h1]
  exact Ev.some_bind (Ev.ifT rfl (Ev.bind (substrings_ev s h16) (Ev.ifT (by simp; omega) (Ev.bind (filt_ev f q _ h) (Ev.now _)))))

end Go.Proofs.YtjoflkeiaoellaaDoor.L

namespace Go.Proofs.YtjoflkeiaoellaaDoor.Pure
open Go.RowKit Go.Proofs.YtjoflkeiaoellaaDoor.P Go.Proofs.YtjoflkeiaoellaaDoor.M Go.Proofs.YtjoflkeiaoellaaDoorW.PrintWords Go.Proofs.YtjoflkeiaoellaaDoorW.PrintLast Go.Proofs.YtjoflkeiaoellaaDoorW.PrintMore
set_option linter.unusedVariables false
open Go.Proofs.YtjoflkeiaoellaaDoor.L
def qOnce (s x : Txt) : Bool := decide (((occM s x).length : Int) = 1)
def shorter (b x : Txt) : Txt := if x.length < b.length then x else b
def shorterIf (s : Txt) (b x : Txt) : Txt := if qOnce s x = true then (if x.length < b.length then x else b) else b
theorem fold_shorter (s : Txt) : ∀ (l : List Txt) (b : Txt), l.foldl (shorterIf s) b = (l.filter (qOnce s)).foldl shorter b
  | [], _ => rfl
  | x :: l, b => by
    rw [List.foldl_cons, fold_shorter s l, List.filter_cons]
    by_cases h : qOnce s x = true
    · rw [if_pos h, List.foldl_cons]; simp [shorterIf, shorter, h]
    · rw [if_neg h]; simp [shorterIf, h]
theorem less_B (b x : Txt) : impl_ShortestOnce.less (B b) (B x) = B (shorter b x) := by
  unfold impl_ShortestOnce.less shorter
  by_cases h : x.length < b.length
  · rw [if_pos (by simp; omega), if_pos h]
  · rw [if_neg (by simp; omega), if_neg h]
theorem fold_less : ∀ (l : List Txt) (b : Txt), (l.map B).foldl impl_ShortestOnce.less (B b) = B (l.foldl shorter b)
  | [], _ => rfl
  | x :: l, b => by rw [List.map_cons, List.foldl_cons, less_B, fold_less l, List.foldl_cons]
theorem once_ev (s x : Txt) (hs : s.length ≤ 16) (hx : x.length ≤ 16) : Ev (fun k => impl_ShortestOnce.p k (B s) (B x)) (qOnce s x) :=
  Ev.bind (occurs_ev s x (by omega) (by omega)) (Ev.now _)
theorem spec_once_loop (s : Txt) (hs : s.length ≤ 16) (l : List Txt) (hl : l.length ≤ 1000000) (hx : ∀ x ∈ l, x.length ≤ 16) : ∀ d n b, n + d = l.length → Ev (fun k => spec_ShortestOnce.l0 k (B s) (B b) (l.map B) (n : Int)) (B ((l.drop n).foldl (shorterIf s) b), true) := by
  intro d
  induction d with
  | zero =>
    intro n b h
    refine Ev.step (fun k => spec_ShortestOnce.l0.eq_2 ..) (Ev.ifF (by simp; omega) ?_)
    rw [List.drop_of_length_le (by omega)]; exact Ev.now _
  | succ d ih =>
    intro n b h
    have h1 : n < l.length := by omega
    have h2 : (l.getD n []).length ≤ 16 := hx _ (by rw [getD_lt [] h1]; exact List.getElem_mem _)
    refine Ev.step (fun k => spec_ShortestOnce.l0.eq_2 ..) ?_
    simp only [rdB l n h1, size_B]
    refine Ev.ifT (by simp; omega) (Ev.ifT (by omega) ?_)
    rw [drop_cons_getD [] h1, List.foldl_cons]
    generalize l.getD n [] = x at h2
    refine Ev.bind (l8At_ev s x (by omega) (by omega)) ?_
    by_cases hq : ((occM s x).length : Int) = 1
    · refine Ev.ifT hq ?_
      have hq2 : qOnce s x = true := by simpa [qOnce] using hq
      by_cases hc : x.length < b.length
      · refine Ev.ifT (by omega) ?_
        rw [show shorterIf s b x = x from by unfold shorterIf; rw [if_pos hq2, if_pos hc]]
        simpa only [wrap64_succ n (by omega)] using ih (n + 1) x (by omega)
      · refine Ev.ifF (by omega) ?_
        rw [show shorterIf s b x = b from by unfold shorterIf; rw [if_pos hq2, if_neg hc]]
        simpa only [wrap64_succ n (by omega)] using ih (n + 1) b (by omega)
    · refine Ev.ifF hq ?_
      have hq2 : ¬ qOnce s x = true := by simpa [qOnce] using hq
      rw [show shorterIf s b x = b from by unfold shorterIf; rw [if_neg hq2]]
      simpa only [wrap64_succ n (by omega)] using ih (n + 1) b (by omega)
theorem FnExactShortestOnce : laws_FnExactShortestOnce.Pure := by
  intro a _
  obtain ⟨s, rfl⟩ := exB a
  by_cases hb : ((B s).size : Int) > 1048576
  · exact ⟨0, by unfold laws_FnExactShortestOnce.f; rw [if_pos hb]⟩
  have hs : s.length ≤ 1048576 := by simp at hb; omega
  have both : ∃ r : ByteArray × Bool, Ev (fun k => spec_ShortestOnce.f k (B s)) r ∧ Ev (fun k => impl_ShortestOnce.f k (B s)) r := by
    unfold spec_ShortestOnce.f impl_ShortestOnce.f
    have e1 := l8Text_ev s (by omega)
    cases h1 : text8 s with
    | false =>
      rw [h1] at e1
      refine ⟨(⟨#[]⟩, false), Ev.bind e1 (Ev.ifF (by simp) (Ev.step (fun k => spec_ShortestOnce.j0.eq_2 ..) (Ev.ifT rfl (Ev.now _)))), Ev.bind (a := (([] : List ByteArray), false)) ?_ (Ev.ifF (by simp) (Ev.now _))⟩
      unfold ChosenOf.list
      rw [isText_eq, h1]
      exact Ev.some_bind (Ev.ifF (by simp) (Ev.now _))
    | true =>
      rw [h1] at e1
      have h16 : s.length ≤ 16 := by unfold text8 at h1; simp at h1; exact h1.2
      have h256 := partsL_length s h16
      have hx : ∀ x ∈ partsL s, x.length ≤ 16 := fun x hx => by have := (mem_partsL hx).1; omega
      have hch := chosen_ev s h1 h16 (fun k => impl_ShortestOnce.p k (B s)) (qOnce s) (fun x hx' => once_ev s x h16 (hx x hx'))
      by_cases h2 : s = []
      · exact ⟨(⟨#[]⟩, false), Ev.bind e1 (Ev.ifT rfl (Ev.step (fun k => spec_ShortestOnce.j0.eq_2 ..) (Ev.ifT (by simp [h2]) (Ev.now _)))), Ev.bind hch (Ev.ifF (by simp [h2]) (Ev.now _))⟩
      · refine ⟨(B ((partsL s).foldl (shorterIf s) s), true), Ev.bind e1 (Ev.ifT rfl (Ev.step (fun k => spec_ShortestOnce.j0.eq_2 ..) (Ev.ifF (by simpa using h2) (Ev.bind (l8Parts_ev s h16) ?_)))), Ev.bind hch (Ev.ifT (by simpa using h2) ?_)⟩
        · simpa using spec_once_loop s h16 (partsL s) (by omega) hx (partsL s).length 0 s (by omega)
        · rw [fold_shorter, fold_less]
          exact Ev.now _
  obtain ⟨r, h1, h2⟩ := both
  refine Ev.rounds ?_
  unfold laws_FnExactShortestOnce.f
  exact Ev.ifF hb (Ev.bind h1 (Ev.bind h2 (Ev.ifT rfl (Ev.ifF (by simp) (Ev.now _)))))

end Go.Proofs.YtjoflkeiaoellaaDoor.Pure

namespace Go.Proofs.YtjoflkeiaoellaaDoor.fnExactShortestOnce
open Go.ChangeShapes Go.WideShapes Go.ChangeAt Go.RowKit
open Go.ChangeMaps (open_string shut_string)
set_option linter.unusedVariables false
def laidL : List (String × DataW Unit) := [("unicode/utf8.acceptRanges", Rows.laid_unicode_utf8_acceptRanges), ("unicode/utf8.first", Rows.laid_unicode_utf8_first)]
theorem own : ownKnob Tryd.prog.godebug = none := by kernel_rfl
set_option maxRecDepth 100000 in
theorem lifted (os : Os) (started : os.Started) (H : Type) (enc : TypeId × Value → H) :
    ReturnsInHanded {} Tryd.checked os 11 .any (fun w args => (Rows.fnExactShortestOnceSpec.pre enc Tryd.prog Tryd.f11 [] false w args ∧ laidMetH Tryd.prog laidL w) ∧ sizedMet enc Tryd.prog Tryd.f11 (OpenSpec.ofChange Rows.fnExactShortestOnceSpec) false w args) (Rows.fnExactShortestOnceSpec.post enc Tryd.prog Tryd.f11 false true false false) := by
  refine returnsInHanded_of_change_and (C := Tryd.checked) (X := fun w _ => laidMetH Tryd.prog laidL w) (fun _ _ _ hh h => h.of_heap hh) own started (by kernel_rfl) Tryd.func11
    (ChangeSpec.witness_shaped (enc := enc) (C := Tryd.checked) (os := os) (X := fun w _ => laidMetH Tryd.prog laidL w) false (World.laidAll Tryd.prog os laidL) #[.string ByteArray.empty] 8 (World.laidAll_os _ _ _) (World.shaped_of_ZipB (by kernel_rfl) (by kernel_rfl)) (by kernel_rfl) (by kernel_rfl) (by kernel_rfl)
      (by rw [MakeChecks.laidMetH_plain _ _ _ (by kernel_rfl)]; exact laidMet_laidAll _ (by kernel_rfl) (by kernel_rfl))) ?_
  intro W base args ds gs before hval0 hW hcnd hsz0 hL_ _
  have hsz : (DataW.weightsEach Tryd.prog (Tryd.f11.params.toList ++ Rows.fnExactShortestOnceSpec.plain.varTypes Tryd.prog) (ds ++ gs)).all (· ≤ reachBytes) = true := hsz0
  have hval : ∀ (j : Nat) t v, Tryd.f11.params[j]? = some t → args[j]? = some v → Value.okWide Tryd.prog W .any base t v := hval0
  have hW' := hW
  obtain ⟨p, q, hA0, hV, rfl, hfz, hnd⟩ := hW
  have hA : DataW.TrodAll enc Tryd.prog W 0 (fun _ => true) true Tryd.f11.params.toList args.toList ds p := hA0
  rw [Tryd.params11] at hA hval hsz
  obtain ⟨v0, vs0, d0, ds0, p0, q0, hargs, rfl, rfl, h0, r0⟩ := trodAll_cons hA
  obtain ⟨rfl, rfl, rfl⟩ := trodAll_nil r0
  obtain rfl : args = #[v0] := by cases args; simp_all
  obtain ⟨rfl, rfl⟩ := trodVars_none hV
  obtain ⟨a0, rfl, rfl, rfl, y0⟩ := open_string Tryd.underlying9 (hval 0 9 v0 rfl rfl) h0
  have w0 : a0.size ≤ 140737488351232 := by
    have z := sized_string hsz (j := 0) (t := 9) rfl rfl
    rw [Array.length_toList] at z
    exact z
  clear hA0 hval0 hsz0 hsz
  refine (P.laws_FnExactShortestOnce.walk Pure.FnExactShortestOnce a0 W w0).mono fun e W' ⟨he, bel⟩ => ?_
  subst he
  exact ⟨_, rfl, _, _, _, [], _, [], hW', trodAll_mk1 (shut_bool Tryd.underlying4 _), (trodAll_cons_mk (shut_string Tryd.underlying9 y0) trodAll_mk0), rfl, bel.frame _, fun h => by cases h⟩
theorem over : Rows.fnExactShortestOnceRow.holds Tryd.pinned (OpenSpec.ofChange Rows.fnExactShortestOnceSpec) :=
  OpenClaim.holds_of_wide 11 Tryd.f11 rfl rfl rfl rfl rfl rfl rfl ⟨rfl, rfl, rfl, rfl, rfl⟩ rfl rfl rfl rfl rfl (by kernel_rfl) Tryd.func11 (by kernel_rfl)
    (of_decide_eq_true (by kernel_rfl)) (by unfold Func.isWrapper; first | (rw [if_pos (by decide +kernel)]; kernel_rfl) | (rw [if_neg (by decide +kernel)]; exact ⟨rfl, rfl⟩))
    (fun os started H enc _ => lifted os started H enc)
theorem proved : Rows.FnExactShortestOnceSaid := over
end Go.Proofs.YtjoflkeiaoellaaDoor.fnExactShortestOnce
namespace Go.Proofs.YtjoflkeiaoellaaDoor
/-- The row, under a short name, for the claim. -/
theorem fnExactShortestOnce_holds : Rows.FnExactShortestOnceSaid := fnExactShortestOnce.proved
/-- The tied card. -/
theorem fnExactShortestOnce_card : Rows.FnExactShortestOnceCardSaid :=
  Claim7.holds_tied_plain_at .later [] [.data, .pinned] true (true, "4c712bdf3fc11f60ce056c4cea36d3085b06d6f32e50bfd925e90d7580ae0c2a") false
    fnExactShortestOnce_holds (fun _ h => by cases h) (by kernel_rfl) (fun _ h => by cases h) fnExactShortestOnce_row_tie rfl ⟨rfl, rfl⟩ (by kernel_rfl) rfl
    (fun f fn hf hfn => by
      obtain rfl : f = 11 := Option.some.inj ((show Tryd.prog.funcNamed "loop.example/g01243/laws.FnExactShortestOnce" = some 11 by kernel_rfl).symm.trans hf) |>.symm
      obtain rfl : fn = Tryd.f11 := (Option.some.inj (Tryd.func11.symm.trans hfn)).symm
      exact ⟨by kernel_rfl, fun j t ht => by
        rw [Tryd.params11] at ht
        have hm : t ∈ [9] := by simpa using Array.mem_of_getElem? ht
        have hall : ([9].all fun u => !Tryd.prog.wantsStandIn u) = true := by kernel_rfl
        exact (show Tryd.prog.wantsStandIn t = false by simpa using List.all_eq_true.1 hall t hm)⟩)
    (by kernel_rfl)
end Go.Proofs.YtjoflkeiaoellaaDoor
