/-
  Part 6 of the proof that FnExactAddPressed returns true for every input: the functions that it reaches, each with its contract, and the law.
  Conditions: those of the given statement, no others.
-/
import Derived.Test.YtfhffcefpnkllaaGreatDoorCFnExactAddPressedW0
import Derived.Test.YtfhffcefpnkllaaGreatDoorRows
import Derived.WalkKit
import Derived.ProofKit
import Derived.OpenShut
import Derived.ShutString
import Derived.ChangeOld
import Derived.Below
import Derived.SizedLaws
import Derived.Lay
import Derived.LaidOnce
import Derived.SevenTiedAt
import Derived.Test.YtfhffcefpnkllaaGreatDoorCards
import Derived.Test.YtfhffcefpnkllaaGreatDoorTie
import Derived.Test.YtfhffcefpnkllaaGreatDoorCFnExactAddPressed0
import Derived.Test.YtfhffcefpnkllaaGreatDoorCFnExactAddPressed3
import Derived.Test.YtfhffcefpnkllaaGreatDoorCFnExactAddPressed4
set_option linter.unusedVariables false
set_option linter.unusedSimpArgs false
set_option maxHeartbeats 8000000
set_option maxRecDepth 100000
namespace Go.Proofs.YtfhffcefpnkllaaGreatDoor.L
open Go.RowKit Go.Proofs.YtfhffcefpnkllaaGreatDoor.P Go.Proofs.YtfhffcefpnkllaaGreatDoor.M Go.Proofs.YtfhffcefpnkllaaGreatDoorW.PrintWords Go.Proofs.YtfhffcefpnkllaaGreatDoorW.PrintLast Go.Proofs.YtfhffcefpnkllaaGreatDoorW.PrintMore
noncomputable def mkBr (j : Nat) : Bd := ⟨mt (3 * j + 1), 3 * (j : Int) + 2, true⟩
noncomputable def marksB (n : Nat) (l : List Bd) : List Bd := (List.range n).map mkBr ++ l.drop n
theorem marksB_length (n : Nat) (l : List Bd) (h : n ≤ l.length) : (marksB n l).length = l.length := by simp [marksB]; omega
theorem marksB_set (n : Nat) (l : List Bd) (h : n < l.length) : (marksB n l).set n (mkBr n) = marksB (n + 1) l := by
 unfold marksB
 rw [List.set_append_right _ _ (by simp), show ((List.range n).map mkBr).length = n from by simp, Nat.sub_self, drop_cons_getD z60 h, List.set_cons_zero, List.range_succ, List.map_append, List.append_assoc]
 rfl
theorem rdB_set (l : List Bd) (n : Nat) (h : n < l.length) (v : Bd) : rd_T60 (l.set n v) (n : Int) = v := by
 rw [rd_getB _ n (by rw [List.length_set]; exact h), List.getElem_set_self]
theorem three_modB (n : Nat) (h : n ≤ 1000000000) : (Int.tmod (wrap64 ((wrap64 ((3 * (n : Int) + 1) + 1)) + 1)) 3 == 0) = true := by
 rw [wrap64_id (x := 3 * (n : Int) + 1 + 1) (by omega) (by omega), wrap64_id (by omega) (by omega), beq_iff_eq, Int.tmod_eq_emod_of_nonneg (by omega)]
 omega
theorem mt_int (n : Nat) (h : n ≤ 1000000000) : Ev (fun k => laws_markText.f k (3 * (n : Int) + 1)) (mt (3 * n + 1)) := by
 have := mt_ev (3 * n + 1) (by omega) (by omega)
 rwa [show ((3 * n + 1 : Nat) : Int) = 3 * (n : Int) + 1 from by omega] at this
theorem markBranchS_loop (l : List Bd) (hl : l.length ≤ 1000000000) : ∀ (d n : Nat), n + d = l.length → Ev (fun k => laws_markBranchS.l0 k (marksB n l) (3 * (n : Int) + 1) (n : Int)) (3 * (l.length : Int) + 1, marksB l.length l) := by
 intro d
 induction d with
 | zero =>
  intro n hn
  refine Ev.step (fun k => laws_markBranchS.l0.eq_2 ..) (Ev.ifF (by rw [marksB_length n l (by omega)]; omega) ?_)
  rw [show n = l.length from by omega]; exact Ev.now _
 | succ d ih =>
  intro n hn
  have h1 : n < (marksB n l).length := by rw [marksB_length n l (by omega)]; omega
  refine Ev.step (fun k => laws_markBranchS.l0.eq_2 ..) (Ev.ifT (by omega) (Ev.bind (mt_int n (by omega)) (Ev.ifT (by omega) (Ev.some_bind (Ev.some_bind ?_)))))
  have := ih (n + 1) (by omega)
  rw [← marksB_set n l (by omega)] at this
  rw [Int.toNat_natCast]
  rw [rdB_set _ n h1, rdB_set _ n (by rw [List.length_set]; exact h1), List.set_set, List.set_set, three_modB n (by omega)]
  rw [show wrap64 ((wrap64 ((wrap64 (3 * (n : Int) + 1 + 1)) + 1)) + 1) = 3 * ((n + 1 : Nat) : Int) + 1 from by rw [wrap64_id (x := 3 * (n : Int) + 1 + 1) (by omega) (by omega), wrap64_id (x := 3 * (n : Int) + 1 + 1 + 1) (by omega) (by omega), wrap64_id (by omega) (by omega)]; omega, wrap64_succ n (by omega), show wrap64 (3 * (n : Int) + 1 + 1) = 3 * (n : Int) + 2 from by rw [wrap64_id (by omega) (by omega)]; omega]
  exact this
theorem markPressed_ev (l : List Bd) (hl : l.length ≤ 1000000000) : Ev (fun k => laws_markPressed.f k l 1) (3 * (l.length : Int) + 1, marksB l.length l) := by
 have := markBranchS_loop l hl l.length 0 (by omega)
 unfold laws_markPressed.f laws_markBranchS.f
 exact Ev.bind this (Ev.now _)
theorem marksB_rd (n : Nat) (l : List Bd) (j : Nat) (h : j < n) (h2 : n ≤ l.length) : rd_T60 (marksB n l) (j : Int) = mkBr j := by
 rw [rd_getB _ j (by rw [marksB_length n l h2]; omega)]
 unfold marksB
 rw [List.getElem_append_left (by simpa using h)]
 simp
theorem heldBranchS_loop (l : List Bd) (hl : l.length ≤ 1000000000) : ∀ (d n : Nat), n + d = l.length → Ev (fun k => laws_heldBranchS.l0 k (marksB l.length l) (3 * (n : Int) + 1) (n : Int)) (3 * (l.length : Int) + 1) := by
 intro d
 induction d with
 | zero =>
  intro n hn
  refine Ev.step (fun k => laws_heldBranchS.l0.eq_2 ..) (Ev.ifF (by rw [marksB_length _ l (by omega)]; omega) ?_)
  rw [show n = l.length from by omega]; exact Ev.now _
 | succ d ih =>
  intro n hn
  have hw : wrap64 (3 * (n : Int) + 1 + 1) = 3 * (n : Int) + 2 := by rw [wrap64_id (by omega) (by omega)]; omega
  have h3 := three_modB n (by omega)
  refine Ev.step (fun k => laws_heldBranchS.l0.eq_2 ..) (Ev.ifT (by rw [marksB_length _ l (by omega)]; omega) (Ev.ifT (by omega) (Ev.bind (mt_int n (by omega)) ?_)))
  rw [marksB_rd _ l n (by omega) (Nat.le_refl _), h3]
  refine Ev.ifT rfl (Ev.ifT (by rw [hw]; rfl) (Ev.ifF (by simp [mkBr]) ?_))
  rw [hw, show wrap64 ((wrap64 (3 * (n : Int) + 2 + 1)) + 1) = 3 * ((n + 1 : Nat) : Int) + 1 from by rw [wrap64_id (x := 3 * (n : Int) + 2 + 1) (by omega) (by omega), wrap64_id (by omega) (by omega)]; omega, wrap64_succ n (by omega)]
  exact ih (n + 1) (by omega)
theorem heldPressed_ev (l : List Bd) (hl : l.length ≤ 1000000000) : Ev (fun k => laws_heldPressed.f k (marksB l.length l) 1) (3 * (l.length : Int) + 1) := by
 have := heldBranchS_loop l hl l.length 0 (by omega)
 unfold laws_heldPressed.f laws_heldBranchS.f
 exact Ev.bind this (Ev.ifF (by omega) (Ev.now _))
end Go.Proofs.YtfhffcefpnkllaaGreatDoor.L
namespace Go.Proofs.YtfhffcefpnkllaaGreatDoor.Pure
open Go.RowKit Go.Proofs.YtfhffcefpnkllaaGreatDoor.P Go.Proofs.YtfhffcefpnkllaaGreatDoor.M Go.Proofs.YtfhffcefpnkllaaGreatDoorW.PrintWords Go.Proofs.YtfhffcefpnkllaaGreatDoorW.PrintLast Go.Proofs.YtfhffcefpnkllaaGreatDoorW.PrintMore
open Go.Proofs.YtfhffcefpnkllaaGreatDoor.L
namespace AddPressed
theorem l2Trie_ok {ws : List Txt} (h : OkW ws) : Ev (fun k => spec_l2Trie.f k (trN (preL ws) ws)) true := by
 obtain ⟨b, c, e⟩ := l2Trie_ev (trN (preL ws) ws)
 obtain rfl := c.2 ⟨ws, h, rfl⟩
 exact e
theorem isTrie_ok {ws : List Txt} (h : OkW ws) : Ev (fun k => impl_isTrie.f k (trN (preL ws) ws)) true := by
 obtain ⟨b, c, e⟩ := isTrie_ev (trN (preL ws) ws)
 obtain rfl := c.2 ⟨ws, h, rfl⟩
 exact e
theorem areKept_ok {ws : List Txt} (h : OkW ws) (w : Txt) : Ev (fun k => impl_areKept.f k (trN (preL ws) ws) (B w)) (wordL w) := by
 unfold impl_areKept.f
 refine Ev.bind (isTrie_ok h) (Ev.ifT rfl ?_)
 rw [isWord_eq]
 exact Ev.some_bind (Ev.now _)
theorem setL_snoc {ws : List Txt} (h : Asc ws) (w : Txt) : setL (ws ++ [w]) = putL ws w := by
 have := setL_of_asc h
 unfold setL at this ⊢
 rw [List.foldl_append, this]
 rfl
theorem add_both {ws : List Txt} (h : OkW ws) (w : Txt) (hw : w.length ≤ 1000000000) : (∃ vs, OkW vs ∧ Ev (fun k => spec_AddWord.f k (trN (preL ws) ws) (B w)) (trN (preL vs) vs, true) ∧ Ev (fun k => impl_AddWord.f k (trN (preL ws) ws) (B w)) (trN (preL vs) vs, true)) ∨
  (Ev (fun k => spec_AddWord.f k (trN (preL ws) ws) (B w)) ([], false) ∧ Ev (fun k => impl_AddWord.f k (trN (preL ws) ws) (B w)) ([], false)) := by
 have h40 := h.len
 have hlw := l2Word_ev w (by omega)
 have hk := areKept_ok h w
 unfold spec_AddWord.f impl_AddWord.f
 by_cases hwd : wordL w = true
 rotate_left
 ·
  have hf : wordL w = false := by simpa using hwd
  rw [hf] at hlw hk
  exact .inr ⟨Ev.bind (l2Trie_ok h) (Ev.ifT rfl (Ev.bind hlw (Ev.step (fun k => spec_AddWord.j0.eq_2 ..) (Ev.ifT rfl (Ev.now _))))), Ev.bind hk (Ev.ifF Bool.false_ne_true (Ev.now _))⟩
 rw [hwd] at hlw hk
 have hall : (ws ++ [w]).all wordL = true := List.all_eq_true.2 fun x hx => by
  rcases List.mem_append.1 hx with hx | hx
  ·
   exact h.word x hx
  rw [List.mem_singleton.1 hx]; exact hwd
 have ho := ofWords_ev (ws ++ [w]) hall (by simp; omega)
 rw [setL_snoc h.asc, List.map_append, List.map_singleton] at ho
 have hput := l2Put_eq ws w (by omega) (fun x hx => by have := h.le x hx; omega)
 have hpl := putL_length_le ws w
 by_cases hc : (putL ws w).length ≤ 40
 ·
  have hv : OkW (putL ws w) := ⟨asc_putL ws w h.asc, hc, fun x hx => by
   rcases (mem_putL ws w x).1 hx with rfl | hx
   ·
    exact hwd
   exact h.word x hx⟩
  rw [if_pos hc] at ho
  refine .inl ⟨putL ws w, hv, Ev.bind (l2Trie_ok h) (Ev.ifT rfl (Ev.bind hlw (Ev.step (fun k => spec_AddWord.j0.eq_2 ..) (Ev.ifF (by simp) (Ev.bind (l2Words_ev h) ?_))))), Ev.bind hk (Ev.ifT rfl (Ev.bind (words_ev h) (Ev.ifT (by rw [List.length_map]; omega) (Ev.bind ho (Ev.now _)))))⟩
  rw [hput]
  exact Ev.some_bind (Ev.ifF (by rw [List.length_map]; omega) (Ev.bind (l2Of_ev hv) (Ev.now _)))
 rw [if_neg hc] at ho
 refine .inr ⟨Ev.bind (l2Trie_ok h) (Ev.ifT rfl (Ev.bind hlw (Ev.step (fun k => spec_AddWord.j0.eq_2 ..) (Ev.ifF (by simp) (Ev.bind (l2Words_ev h) ?_))))), Ev.bind hk (Ev.ifT rfl (Ev.bind (words_ev h) (Ev.ifT (by rw [List.length_map]; omega) (Ev.bind ho (Ev.now _)))))⟩
 rw [hput]
 exact Ev.some_bind (Ev.ifT (by rw [List.length_map]; omega) (Ev.now _))
theorem stay_le {vs : List Txt} (h : OkW vs) : (brs (preL vs) vs).length ≤ 481 := by
 rw [brs_length]
 exact Nat.le_trans (List.length_filter_le _ _) h.pre
theorem both (N : List Bd) (hN : N.length ≤ 1048576) (hb : ∀ b ∈ N, b.f0.size ≤ 1000000000) (w : Txt) (hw : w.length ≤ 1000000000) : ∃ r : List Bd × Int × Bool, r.1.length ≤ 1000 ∧ Ev (fun k => spec_AddPressed.f k N (B w)) r ∧ Ev (fun k => impl_AddPressed.f k N (B w)) r := by
 unfold spec_AddPressed.f impl_AddPressed.f impl_changed_add.f
 rcases open_both N hb with ⟨ws, h, rfl, hl, e1, e2⟩ | ⟨e1, e2⟩
 ·
  rcases add_both h w hw with ⟨vs, hv, a1, a2⟩ | ⟨a1, a2⟩
  ·
   have hle := stay_le hv
   refine ⟨(brs (preL vs) vs, wrap64 (((brs (preL vs) vs).length : Int) - ((brs (preL ws) ws).length : Int)), true), by show (brs (preL vs) vs).length ≤ 1000; omega, Ev.bind e1 (Ev.ifT rfl (Ev.bind a1 (Ev.ifT rfl (Ev.bind (l4Press_ev hv) ?_)))), Ev.bind (Ev.bind e2 (Ev.ifT rfl (Ev.bind a2 (Ev.ifT rfl (Ev.bind (press_ev hv) (Ev.now _)))))) ?_⟩
   ·
    exact Ev.now _
   exact Ev.now _
  exact ⟨([], 0, false), by simp, Ev.bind e1 (Ev.ifT rfl (Ev.bind a1 (Ev.ifF Bool.false_ne_true (Ev.now _)))), Ev.bind (Ev.bind e2 (Ev.ifT rfl (Ev.bind a2 (Ev.ifF Bool.false_ne_true (Ev.now _))))) (Ev.now _)⟩
 exact ⟨([], 0, false), by simp, Ev.bind e1 (Ev.ifF Bool.false_ne_true (Ev.now _)), Ev.bind (Ev.bind e2 (Ev.ifF Bool.false_ne_true (Ev.now _))) (Ev.now _)⟩
end AddPressed
theorem FnExactAddPressed : laws_FnExactAddPressed.Pure := by
 intro l a hl hs _
 obtain ⟨w, rfl⟩ := exB a
 by_cases hb : ((B w).size : Int) > 1048576
 ·
  exact ⟨0, by unfold laws_FnExactAddPressed.f; rw [if_pos hb]⟩
 rw [size_B] at hb
 obtain ⟨v, v1, v2⟩ := szP_ev l hl hs
 refine Ev.rounds ?_
 unfold laws_FnExactAddPressed.f
 refine Ev.ifF (by rw [size_B]; exact hb) (Ev.bind v1 ?_)
 by_cases h0 : v < 0
 ·
  exact Ev.ifT h0 (Ev.now _)
 obtain ⟨hlen, hsm⟩ := v2 (by omega)
 obtain ⟨r, hr, h1, h2⟩ := AddPressed.both (toB l) (by rw [toB_length]; exact hlen) (toB_small hsm) w (by omega)
 have hP := eqPressed_ev (toB l) (by rw [toB_length]; omega)
 have hE := eqPressed_ev r.1 (by omega)
 have hM := markPressed_ev (toB l) (by rw [toB_length]; omega)
 have hT := markPressed_ev r.1 (by omega)
 have hH := heldPressed_ev r.1 (by omega)
 refine Ev.ifF h0 (Ev.bind (toPressed_ev l hlen) (Ev.bind h1 (Ev.bind (toPressed_ev l hlen) (Ev.bind h2 (Ev.bind hE (Ev.ifT rfl (Ev.ifT rfl ?_)))))))
 refine Ev.step (fun k => laws_FnExactAddPressed.j0.eq_2 ..) (Ev.ifF (by simp) (Ev.bind (toPressed_ev l hlen) (Ev.bind hP (Ev.ifT rfl (Ev.bind hM (Ev.ifF (by omega) (Ev.bind hE (Ev.ifT rfl (Ev.ifT rfl ?_)))))))))
 refine Ev.step (fun k => laws_FnExactAddPressed.j1.eq_2 ..) (Ev.ifF (by simp) (Ev.bind hT (Ev.bind hH (Ev.ifF (by omega) (Ev.ifT rfl (Ev.bind (toPressed_ev l hlen) (Ev.bind h2 (Ev.bind hE (Ev.ifT rfl (Ev.ifT rfl ?_))))))))))
 exact Ev.step (fun k => laws_FnExactAddPressed.j2.eq_2 ..) (Ev.ifF (by simp) (Ev.bind hH (Ev.ifF (by omega) (Ev.ifT rfl (Ev.now _)))))
end Go.Proofs.YtfhffcefpnkllaaGreatDoor.Pure
namespace Go.Proofs.YtfhffcefpnkllaaGreatDoor.fnExactAddPressed
open Go.ChangeShapes Go.WideShapes Go.ChangeAt Go.RowKit Go.Proofs.YtfhffcefpnkllaaGreatDoor.P
open Go.ChangeMaps (open_string shut_string)
def laidL : List (String × DataW Unit) := [("unicode/utf8.acceptRanges", Rows.laid_unicode_utf8_acceptRanges), ("unicode/utf8.first", Rows.laid_unicode_utf8_first)]
theorem own : ownKnob Tryz.prog.godebug = none := by kernel_rfl
theorem laidOut : laidOutB Tryz.prog = true := by kernel_rfl
theorem lifted (os : Os) (started : os.Started) (H : Type) (enc : TypeId × Value → H) :
    ReturnsInHanded {} Tryz.checked os 6 .any (fun w args => (Rows.fnExactAddPressedSpec.pre enc Tryz.prog Tryz.f6 [] false w args ∧ laidMetH Tryz.prog laidL w) ∧ sizedMet enc Tryz.prog Tryz.f6 (OpenSpec.ofChange Rows.fnExactAddPressedSpec) false w args) (Rows.fnExactAddPressedSpec.post enc Tryz.prog Tryz.f6 false true false false) := by
  refine returnsInHanded_of_change_and (C := Tryz.checked) (X := fun w _ => laidMetH Tryz.prog laidL w) (fun _ _ _ hh h => h.of_heap hh) own started (by kernel_rfl) Tryz.func6
    (ChangeSpec.witness_shaped (enc := enc) (C := Tryz.checked) (os := os) (X := fun w _ => laidMetH Tryz.prog laidL w) false (World.laidAll Tryz.prog os laidL) #[.agg #[.slice none 0 0], .string ByteArray.empty] 8 (World.laidAll_os _ _ _) (World.shaped_of_ZipB (by kernel_rfl) (by kernel_rfl)) (by kernel_rfl) (by kernel_rfl) (by kernel_rfl)
      (by rw [MakeChecks.laidMetH_plain _ _ _ (by kernel_rfl)]; exact laidMet_laidAll _ (by kernel_rfl) (by kernel_rfl))) ?_
  intro W base args ds gs before hval0 hW hcnd hsz0 hL_ _
  have hsz : (DataW.weightsEach Tryz.prog (Tryz.f6.params.toList ++ Rows.fnExactAddPressedSpec.plain.varTypes Tryz.prog) (ds ++ gs)).all (· ≤ reachBytes) = true := hsz0
  have hval : ∀ (j : Nat) t v, Tryz.f6.params[j]? = some t → args[j]? = some v → Value.okWide Tryz.prog W .any base t v := hval0
  have hW' := hW
  obtain ⟨p, q, hA0, hV, rfl, hfz, hnd⟩ := hW
  have hA : DataW.TrodAll enc Tryz.prog W 0 (fun _ => true) true Tryz.f6.params.toList args.toList ds p := hA0
  rw [Tryz.params6] at hA hval hsz
  obtain ⟨v0, vs0, d0, ds0, p0, q0, hargs, rfl, rfl, h0, r0⟩ := trodAll_cons hA
  obtain ⟨v1, vs1, d1, ds1, p1, q1, rfl, rfl, rfl, h1, r1⟩ := trodAll_cons r0
  obtain ⟨rfl, rfl, rfl⟩ := trodAll_nil r1
  obtain rfl : args = #[v0, v1] := by cases args; simp_all
  obtain ⟨rfl, rfl⟩ := trodVars_none hV
  have k0 := h0
  have lt0 : ∀ x ∈ p0, x.block < W.heap.size := by obtain ⟨m, hm⟩ := k0; exact DataW.trod_lt m _ _ _ hm
  obtain ⟨A0, c0, l0, ev0, hc0, hr0, hs0⟩ := OPr.pressed (hval 0 24 v0 rfl rfl) h0
  subst ev0
  obtain ⟨a1, rfl, rfl, rfl, y1⟩ := open_string Tryz.underlying9 (hval 1 9 v1 rfl rfl) h1
  have w1 : a1.size ≤ 140737488351232 := by
    have z := sized_string hsz (j := 1) (t := 9) rfl rfl
    rw [Array.length_toList] at z
    exact z
  clear hA0 hval0 hsz0 hsz
  refine (laws_FnExactAddPressed.walk Pure.FnExactAddPressed W A0 c0 l0 hr0 hc0 hs0 a1 w1).mono fun e W' ⟨he, bel⟩ => ?_
  subst he
  exact ⟨_, rfl, _, _, _, [], _, [], hW', trodAll_mk1 (shut_bool Tryz.underlying4 _), (trodAll_cons_mk (Below.trod laidOut (by kernel_rfl) (of_decide_eq_true (by kernel_rfl)) k0 bel lt0) (trodAll_cons_mk (shut_string Tryz.underlying9 y1) trodAll_mk0)), rfl, bel.frame _, fun h => by cases h⟩
theorem over : Rows.fnExactAddPressedRow.holds Tryz.pinned (OpenSpec.ofChange Rows.fnExactAddPressedSpec) :=
  OpenClaim.holds_of_wide 6 Tryz.f6 rfl rfl rfl rfl rfl rfl rfl ⟨rfl, rfl, rfl, rfl, rfl⟩ rfl rfl rfl rfl rfl (by kernel_rfl) Tryz.func6 (by kernel_rfl)
    (of_decide_eq_true (by kernel_rfl)) (by unfold Func.isWrapper; first | (rw [if_pos (by decide +kernel)]; kernel_rfl) | (rw [if_neg (by decide +kernel)]; exact ⟨rfl, rfl⟩))
    (fun os started H enc _ => lifted os started H enc)
theorem proved : Rows.FnExactAddPressedSaid := over
end Go.Proofs.YtfhffcefpnkllaaGreatDoor.fnExactAddPressed
namespace Go.Proofs.YtfhffcefpnkllaaGreatDoor
theorem fnExactAddPressed_holds : Rows.FnExactAddPressedSaid := fnExactAddPressed.proved
theorem fnExactAddPressed_card : Rows.FnExactAddPressedCardSaid :=
  Claim7.holds_tied_plain_at .later [] [.data, .pinned] true (true, "89e9aeddae24cd2275e11d4f31cafb8a5f0d0d61960544b8b9d0c6dec95f84d4") false
    fnExactAddPressed_holds (fun _ h => by cases h) (by kernel_rfl) (fun _ h => by cases h) fnExactAddPressed_row_tie rfl ⟨rfl, rfl⟩ (by kernel_rfl) rfl
    (fun f fn hf hfn => by
      obtain rfl : f = 6 := Option.some.inj ((show Tryz.prog.funcNamed "loop.example/g01243/laws.FnExactAddPressed" = some 6 by kernel_rfl).symm.trans hf) |>.symm
      obtain rfl : fn = Tryz.f6 := (Option.some.inj (Tryz.func6.symm.trans hfn)).symm
      exact ⟨by kernel_rfl, fun j t ht => by
        rw [Tryz.params6] at ht
        have hm : t ∈ [24, 9] := by simpa using Array.mem_of_getElem? ht
        have hall : ([24, 9].all fun u => !Tryz.prog.wantsStandIn u) = true := by kernel_rfl
        exact (show Tryz.prog.wantsStandIn t = false by simpa using List.all_eq_true.1 hall t hm)⟩)
    (by kernel_rfl)
end Go.Proofs.YtfhffcefpnkllaaGreatDoor
