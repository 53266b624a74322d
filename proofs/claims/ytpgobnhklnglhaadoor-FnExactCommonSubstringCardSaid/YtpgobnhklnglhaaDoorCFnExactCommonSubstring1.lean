/-
  Part 2 of the proof that FnExactCommonSubstring returns true for every input: the functions that it reaches, each with its contract, and the law.
  Conditions: those of the given statement, no others.
-/
import Derived.Test.YtpgobnhklnglhaaDoorCFnExactCommonSubstringW0
import Derived.Test.YtpgobnhklnglhaaDoorRows
import Derived.WalkKit
import Derived.ProofKit
import Derived.OpenShut
import Derived.ShutString
import Derived.ChangeOld
import Derived.Below
import Derived.SizedLaws
import Derived.Lay
import Derived.LaidOnce
import Derived.SevenTiedAt
import Derived.Test.YtpgobnhklnglhaaDoorCards
import Derived.Test.YtpgobnhklnglhaaDoorTie
import Derived.Test.YtpgobnhklnglhaaDoorCFnExactCommonSubstring0
set_option linter.unusedVariables false
set_option linter.unusedSimpArgs false
namespace Go.Proofs.YtpgobnhklnglhaaDoor.L
open Go.RowKit Go.Proofs.YtpgobnhklnglhaaDoor.P Go.Proofs.YtpgobnhklnglhaaDoor.M Go.Proofs.YtpgobnhklnglhaaDoorW.PrintWords Go.Proofs.YtpgobnhklnglhaaDoorW.PrintLast Go.Proofs.YtpgobnhklnglhaaDoorW.PrintMore
set_option linter.unusedVariables false
def longer (b x : Txt) : Txt := if x.length > b.length then x else b
theorem longest_loop (l : List Txt) (hl : l.length ≤ 1000000) : ∀ d n b, n + d = l.length → Ev (fun k => impl_longest.l0 k (B b) (l.map B) ((l.map B).length : Int) (n : Int)) (B ((l.drop n).foldl longer b)) := by
 intro d
 induction d with
 | zero =>
  intro n b h
  refine Ev.step (fun k => impl_longest.l0.eq_2 ..) (Ev.ifF (by simp; omega) ?_)
  rw [List.drop_of_length_le (by omega)]; exact Ev.now _
 | succ d ih =>
  intro n b h
  have h1 : n < l.length := by omega
  refine Ev.step (fun k => impl_longest.l0.eq_2 ..) ?_
  simp only [rdB l n h1, size_B]
  refine Ev.ifT (by simp; omega) (Ev.ifT (by omega) (Ev.ifT (by simp; omega) ?_))
  rw [drop_cons_getD [] h1, List.foldl_cons]
  generalize l.getD n [] = x
  by_cases hc : x.length > b.length
  ·
   refine Ev.ifT (by omega) ?_
   rw [show longer b x = x from if_pos hc]
   simpa only [wrap64_succ n (by omega)] using ih (n + 1) x (by omega)
  ·
   refine Ev.ifF (by omega) ?_
   rw [show longer b x = b from if_neg hc]
   simpa only [wrap64_succ n (by omega)] using ih (n + 1) b (by omega)
theorem longest_ev (l : List Txt) (hl : l.length ≤ 1000000) : Ev (fun k => impl_longest.f k (l.map B)) (B (l.foldl longer [])) := by
 simpa [impl_longest.f] using longest_loop l hl l.length 0 [] (by omega)
theorem ev_all (f : Nat → ByteArray → Option Bool) (q : Txt → Bool) : ∀ (l : List Txt), (∀ x ∈ l, Ev (fun k => f k (B x)) (q x)) → ∃ K, ∀ k, K ≤ k → ∀ x ∈ l, f k (B x) = some (q x)
 | [], _ => ⟨0, fun _ _ x hx => absurd hx (by simp)⟩
 | y :: l, h => by
  obtain ⟨K1, h1⟩ := h y (by simp)
  obtain ⟨K2, h2⟩ := ev_all f q l (fun x hx => h x (by simp [hx]))
  refine ⟨K1 + K2, fun k hk x hx => ?_⟩
  rcases List.mem_cons.1 hx with rfl | hx
  ·
   exact h1 k (by omega)
  ·
   exact h2 k (by omega) x hx
theorem filt_ev (f : Nat → ByteArray → Option Bool) (q : Txt → Bool) (l : List Txt) (h : ∀ x ∈ l, Ev (fun k => f k (B x)) (q x)) : Ev (fun k => filt (f k) (l.map B)) ((l.filter q).map B) := by
 obtain ⟨K, hK⟩ := ev_all f q l h
 refine ⟨K, fun k hk => ?_⟩
 show filt (f k) (l.map B) = _
 rw [filt_of (fun b => q b.data.toList) (fun x hx => ?_), List.filter_map]
 ·
  rw [List.filter_congr (q := q) (fun x _ => by simp)]
 ·
  obtain ⟨y, hy, rfl⟩ := List.mem_map.1 hx
  rw [hK k hk y hy, data_B]
theorem chosen_ev (s : Txt) (h1 : text8 s = true) (h16 : s.length ≤ 16) (f : Nat → ByteArray → Option Bool) (q : Txt → Bool) (h : ∀ x ∈ partsL s, Ev (fun k => f k (B x)) (q x)) :
  Ev (fun k => ChosenOf.list (impl_isText.f (B s)) (impl_substrings.f k (B s)) (f k)) (((partsL s).filter q).map B, true) := by
 have h256 := partsL_length s h16
 unfold ChosenOf.list
 rw [isText_eq, h1]
 exact Ev.some_bind (Ev.ifT rfl (Ev.bind (substrings_ev s h16) (Ev.ifT (by simp; omega) (Ev.bind (filt_ev f q _ h) (Ev.now _)))))
end Go.Proofs.YtpgobnhklnglhaaDoor.L
namespace Go.Proofs.YtpgobnhklnglhaaDoor.Pure
open Go.RowKit Go.Proofs.YtpgobnhklnglhaaDoor.P Go.Proofs.YtpgobnhklnglhaaDoor.M Go.Proofs.YtpgobnhklnglhaaDoorW.PrintWords Go.Proofs.YtpgobnhklnglhaaDoorW.PrintLast Go.Proofs.YtpgobnhklnglhaaDoorW.PrintMore
set_option linter.unusedVariables false
open Go.Proofs.YtpgobnhklnglhaaDoor.L
namespace CommonSub
theorem index_ge (p : Txt) : ∀ l : Txt, -1 ≤ Go.Lib.index l p
 | [] => by unfold Go.Lib.index; split <;> omega
 | b :: l => by
  have := index_ge p l
  unfold Go.Lib.index
  split
  ·
   omega
  ·
   split
   ·
    omega
   ·
    omega
theorem pre_iff (l p : Txt) : hasPre l p = p.isPrefixOf l := by
 rw [Bool.eq_iff_iff, List.isPrefixOf_iff_prefix]
 unfold hasPre
 rw [beq_iff_eq, List.prefix_iff_eq_take]
 exact eq_comm
theorem occ_index (s p : Txt) : ∀ (l : Txt) (n : Nat), s.drop n = l → (0 < (occFrom s p n (l.length + 1)).length ↔ 0 ≤ Go.Lib.index l p)
 | [], n, h => by
  rw [List.length_nil, occFrom, occFrom, List.append_nil, h]
  cases p with
  | nil => simp [hasPre, Go.Lib.index]
  | cons x p => simp [hasPre, Go.Lib.index]
 | b :: l, n, h => by
  have h2 : s.drop (n + 1) = l := by
   have := congrArg (List.drop 1) h
   rw [List.drop_drop] at this
   simpa using this
  have ih := occ_index s p l (n + 1) h2
  have hg := index_ge p l
  rw [List.length_cons, occFrom, h, pre_iff]
  by_cases hp : p.isPrefixOf (b :: l) = true
  ·
   rw [if_pos hp]
   unfold Go.Lib.index
   rw [if_pos hp]
   simp
  ·
   rw [if_neg hp, List.nil_append, ih]
   conv => rhs; unfold Go.Lib.index
   rw [if_neg hp]
   by_cases he : (Go.Lib.index l p == -1) = true
   ·
    rw [if_pos he]
    have := beq_iff_eq.1 he
    omega
   ·
    rw [if_neg he]
    have : Go.Lib.index l p ≠ -1 := fun e => he (beq_iff_eq.2 e)
    omega
def inB (b x : Txt) : Bool := decide (0 < ((occM b x).length : Int))
theorem contains_eq (b x : Txt) : Go.Lib.contains b x = inB b x := by
 unfold Go.Lib.contains inB occM
 have := occ_index b x b 0 (by simp)
 rw [decide_eq_decide]
 omega
def lIf (s : Txt) (b x : Txt) : Txt := if x.length > b.length then (if inB s x = true then x else b) else b
theorem fold_lIf (s : Txt) : ∀ (l : List Txt) (b : Txt), l.foldl (lIf s) b = (l.filter (inB s)).foldl longer b
 | [], _ => rfl
 | x :: l, b => by
  rw [List.foldl_cons, fold_lIf s l, List.filter_cons]
  by_cases h : inB s x = true
  ·
   rw [if_pos h, List.foldl_cons]; simp [lIf, longer, h]
  ·
   rw [if_neg h]; simp [lIf, h]
theorem spec_loop (s : Txt) (hs : s.length ≤ 16) (l : List Txt) (hl : l.length ≤ 1000000) (hx : ∀ x ∈ l, x.length ≤ 16) : ∀ d n b, n + d = l.length → Ev (fun k => spec_CommonSubstring.l0 k (B s) (B b) (l.map B) (n : Int)) (B ((l.drop n).foldl (lIf s) b), true) := by
 intro d
 induction d with
 | zero =>
  intro n b h
  refine Ev.step (fun k => spec_CommonSubstring.l0.eq_2 ..) (Ev.ifF (by simp; omega) ?_)
  rw [List.drop_of_length_le (by omega)]; exact Ev.now _
 | succ d ih =>
  intro n b h
  have h1 : n < l.length := by omega
  have h2 : (l.getD n []).length ≤ 16 := hx _ (by rw [getD_lt [] h1]; exact List.getElem_mem _)
  refine Ev.step (fun k => spec_CommonSubstring.l0.eq_2 ..) ?_
  simp only [rdB l n h1, size_B]
  refine Ev.ifT (by simp; omega) (Ev.ifT (by omega) ?_)
  rw [drop_cons_getD [] h1, List.foldl_cons]
  generalize l.getD n [] = x at h2
  by_cases hc : x.length > b.length
  ·
   refine Ev.ifT (by omega) (Ev.bind (l8At_ev s x (by omega) (by omega)) ?_)
   by_cases hq : ((occM s x).length : Int) > 0
   ·
    refine Ev.ifT hq ?_
    rw [show lIf s b x = x from by unfold lIf; rw [if_pos hc, if_pos (show inB s x = true from decide_eq_true hq)]]
    simpa only [wrap64_succ n (by omega)] using ih (n + 1) x (by omega)
   ·
    refine Ev.ifF hq ?_
    rw [show lIf s b x = b from by unfold lIf; rw [if_pos hc, if_neg (show ¬ inB s x = true from fun e => hq (of_decide_eq_true e))]]
    simpa only [wrap64_succ n (by omega)] using ih (n + 1) b (by omega)
  ·
   refine Ev.ifF (by omega) ?_
   rw [show lIf s b x = b from if_neg hc]
   simpa only [wrap64_succ n (by omega)] using ih (n + 1) b (by omega)
theorem both (s t : Txt) (hs : s.length ≤ 1048576) (ht : t.length ≤ 1048576) : ∃ r : ByteArray × Bool, Ev (fun k => spec_CommonSubstring.f k (B s) (B t)) r ∧ Ev (fun k => impl_CommonSubstring.f k (B s) (B t)) r := by
 have e1 := l8Text_ev s (by omega)
 have e2 := l8Text_ev t (by omega)
 have s0 : Ev (fun k => spec_CommonSubstring.j0 k (B s) (B t) true) (⟨#[]⟩, false) := Ev.step (fun k => spec_CommonSubstring.j0.eq_2 ..) (Ev.ifT rfl (Ev.now _))
 unfold spec_CommonSubstring.f impl_CommonSubstring.f
 cases h1 : text8 s with
 | false =>
  rw [h1] at e1
  refine ⟨(⟨#[]⟩, false), Ev.bind e1 (Ev.ifF (by simp) s0), Ev.bind (a := (([] : List ByteArray), false)) ?_ (Ev.ifF (by simp) (Ev.now _))⟩
  unfold ChosenOf.list
  rw [isText_eq, h1]
  exact Ev.some_bind (Ev.ifF (by simp) (Ev.now _))
 | true =>
  rw [h1] at e1
  have h16 : s.length ≤ 16 := by unfold text8 at h1; simp at h1; exact h1.2
  have h256 := partsL_length s h16
  have hx : ∀ x ∈ partsL s, x.length ≤ 16 := fun x hx => by have := (mem_partsL hx).1; omega
  have hch := chosen_ev s h1 h16 (fun k => impl_CommonSubstring.p (B t)) (inB t) (fun x _ => by
   show Ev (fun _ => impl_CommonSubstring.p (B t) (B x)) (inB t x)
   unfold impl_CommonSubstring.p impl_CommonSubstring.q
   rw [data_B, data_B, contains_eq]
   exact Ev.ifT (by rw [size_B]; omega) (Ev.now _))
  cases h2 : text8 t with
  | false =>
   rw [h2] at e2
   refine ⟨(⟨#[]⟩, false), Ev.bind e1 (Ev.ifT rfl (Ev.bind e2 s0)), Ev.bind hch (Ev.ifT rfl ?_)⟩
   rw [isText_eq, h2]
   exact Ev.some_bind (Ev.ifF (by simp) (Ev.now _))
  | true =>
   rw [h2] at e2
   have t16 : t.length ≤ 16 := by unfold text8 at h2; simp at h2; exact h2.2
   refine ⟨(B ((partsL s).foldl (lIf t) []), true), Ev.bind e1 (Ev.ifT rfl (Ev.bind e2 (Ev.step (fun k => spec_CommonSubstring.j0.eq_2 ..) (Ev.ifF (by simp) (Ev.bind (l8Parts_ev s h16) ?_))))), Ev.bind hch (Ev.ifT rfl ?_)⟩
   ·
    exact spec_loop t t16 (partsL s) (by omega) hx (partsL s).length 0 [] (by omega)
   ·
    rw [isText_eq, h2, fold_lIf]
    have := List.length_filter_le (inB t) (partsL s)
    exact Ev.some_bind (Ev.ifT rfl (Ev.bind (longest_ev ((partsL s).filter (inB t)) (by omega)) (Ev.now _)))
end CommonSub
theorem FnExactCommonSubstring : laws_FnExactCommonSubstring.Pure := by
 intro a b ha hb
 obtain ⟨s, rfl⟩ := exB a
 obtain ⟨t, rfl⟩ := exB b
 rw [size_B] at ha hb
 obtain ⟨⟨r1, r2⟩, ⟨K1, h1⟩, ⟨K2, h2⟩⟩ := CommonSub.both s t ha hb
 exact ⟨max K1 K2, r1, r2, h1 _ (by omega), h2 _ (by omega)⟩
end Go.Proofs.YtpgobnhklnglhaaDoor.Pure
namespace Go.Proofs.YtpgobnhklnglhaaDoor.fnExactCommonSubstring
open Go.ChangeShapes Go.WideShapes Go.ChangeAt Go.RowKit Go.Proofs.YtpgobnhklnglhaaDoor.P
open Go.ChangeMaps (open_string shut_string)
set_option linter.unusedVariables false
def laidL : List (String × DataW Unit) := [("unicode/utf8.acceptRanges", Rows.laid_unicode_utf8_acceptRanges), ("unicode/utf8.first", Rows.laid_unicode_utf8_first)]
theorem own : ownKnob Tryd.prog.godebug = none := by kernel_rfl
theorem laidOut : laidOutB Tryd.prog = true := by kernel_rfl
set_option maxRecDepth 100000 in
theorem lifted (os : Os) (started : os.Started) (H : Type) (enc : TypeId × Value → H) :
    ReturnsInHanded {} Tryd.checked os 3 .any (fun w args => (Rows.fnExactCommonSubstringSpec.pre enc Tryd.prog Tryd.f3 [] false w args ∧ laidMetH Tryd.prog laidL w) ∧ sizedMet enc Tryd.prog Tryd.f3 (OpenSpec.ofChange Rows.fnExactCommonSubstringSpec) false w args) (Rows.fnExactCommonSubstringSpec.post enc Tryd.prog Tryd.f3 false true false false) := by
  refine returnsInHanded_of_calls (C := Tryd.checked) own started (by kernel_rfl)
    (ChangeSpec.witness_shaped (enc := enc) (C := Tryd.checked) (os := os) (X := fun w _ => laidMetH Tryd.prog laidL w) false (World.laidAll Tryd.prog os laidL) #[.string ByteArray.empty, .string ByteArray.empty] 8 (World.laidAll_os _ _ _) (World.shaped_of_ZipB (by kernel_rfl) (by kernel_rfl)) (by kernel_rfl) (by kernel_rfl) (by kernel_rfl)
      (by rw [MakeChecks.laidMetH_plain _ _ _ (by kernel_rfl)]; exact laidMet_laidAll _ (by kernel_rfl) (by kernel_rfl))) ?_
  intro w_ tape_ i_ _ hsh _ hok_ hpre_ _
  obtain ⟨_, _, _, fn_, hfn_, _, _, _, _, hval0⟩ := hok_
  obtain rfl : fn_ = Tryd.f3 := Option.some.inj (hfn_.symm.trans Tryd.func3)
  obtain ⟨⟨⟨ds, gs, before, hw_, hcnd⟩, hL_⟩, hz_⟩ := hpre_
  have hsz0 := hz_.weights hw_
  have hW := DataW.Whole.of_heap (w' := w_.forCall tape_ i_) (by rfl) hw_
  generalize w_.heap.size = base at hval0
  generalize i_.args = args at hval0 hW hw_ hz_ ⊢
  refine Calls.mono (R := fun e W' => ∃ v, e = .returned v ∧ Rows.fnExactCommonSubstringSpec.post enc Tryd.prog Tryd.f3 false true false false (w_.forCall tape_ i_) args v W') ?_ (fun e W' ⟨v, he, hp⟩ => by subst he; exact ChangeSpec.post_blind hp)
  generalize w_.forCall tape_ i_ = W at hsh hval0 hW ⊢
  clear hw_ hz_ hL_
  have hsz : (DataW.weightsEach Tryd.prog (Tryd.f3.params.toList ++ Rows.fnExactCommonSubstringSpec.plain.varTypes Tryd.prog) (ds ++ gs)).all (· ≤ reachBytes) = true := hsz0
  have hval : ∀ (j : Nat) t v, Tryd.f3.params[j]? = some t → args[j]? = some v → Value.okWide Tryd.prog W .any base t v := hval0
  have hW' := hW
  obtain ⟨p, q, hA0, hV, rfl, hfz, hnd⟩ := hW
  have hA : DataW.TrodAll enc Tryd.prog W 0 (fun _ => true) true Tryd.f3.params.toList args.toList ds p := hA0
  rw [Tryd.params3] at hA hval hsz
  obtain ⟨v0, vs0, d0, ds0, p0, q0, hargs, rfl, rfl, h0, r0⟩ := trodAll_cons hA
  obtain ⟨v1, vs1, d1, ds1, p1, q1, rfl, rfl, rfl, h1, r1⟩ := trodAll_cons r0
  obtain ⟨rfl, rfl, rfl⟩ := trodAll_nil r1
  obtain rfl : args = #[v0, v1] := by cases args; simp_all
  obtain ⟨rfl, rfl⟩ := trodVars_none hV
  obtain ⟨a0, rfl, rfl, rfl, y0⟩ := open_string Tryd.underlying9 (hval 0 9 v0 rfl rfl) h0
  have w0 : a0.size ≤ 140737488351232 := by
    have z := sized_string hsz (j := 0) (t := 9) rfl rfl
    rw [Array.length_toList] at z
    exact z
  obtain ⟨a1, rfl, rfl, rfl, y1⟩ := open_string Tryd.underlying9 (hval 1 9 v1 rfl rfl) h1
  have w1 : a1.size ≤ 140737488351232 := by
    have z := sized_string hsz (j := 1) (t := 9) rfl rfl
    rw [Array.length_toList] at z
    exact z
  clear hA0 hval0 hsz0 hsz
  refine (laws_FnExactCommonSubstring.walk Pure.FnExactCommonSubstring W (laws_FnExactCommonSubstring.met W hsh) a0 w0 a1 w1).mono fun e W' ⟨he, bel⟩ => ?_
  subst he
  exact ⟨_, rfl, _, _, _, [], _, [], hW', trodAll_mk1 (shut_bool Tryd.underlying4 _), (trodAll_cons_mk (shut_string Tryd.underlying9 y0) (trodAll_cons_mk (shut_string Tryd.underlying9 y1) trodAll_mk0)), rfl, bel.frame _, fun h => by cases h⟩
theorem over : Rows.fnExactCommonSubstringRow.holds Tryd.pinned (OpenSpec.ofChange Rows.fnExactCommonSubstringSpec) :=
  OpenClaim.holds_of_wide 3 Tryd.f3 rfl rfl rfl rfl rfl rfl rfl ⟨rfl, rfl, rfl, rfl, rfl⟩ rfl rfl rfl rfl rfl (by kernel_rfl) Tryd.func3 (by kernel_rfl)
    (of_decide_eq_true (by kernel_rfl)) (by unfold Func.isWrapper; first | (rw [if_pos (by decide +kernel)]; kernel_rfl) | (rw [if_neg (by decide +kernel)]; exact ⟨rfl, rfl⟩))
    (fun os started H enc _ => lifted os started H enc)
theorem proved : Rows.FnExactCommonSubstringSaid := over
end Go.Proofs.YtpgobnhklnglhaaDoor.fnExactCommonSubstring
namespace Go.Proofs.YtpgobnhklnglhaaDoor
theorem fnExactCommonSubstring_holds : Rows.FnExactCommonSubstringSaid := fnExactCommonSubstring.proved
theorem fnExactCommonSubstring_card : Rows.FnExactCommonSubstringCardSaid :=
  Claim7.holds_tied_plain_at .later [] [.data, .pinned] true (true, "9ae60ee42558e505d51ea8aff4f405cbdc85461b0477ae2c9f3e080b28545796") false
    fnExactCommonSubstring_holds (fun _ h => by cases h) (by kernel_rfl) (fun _ h => by cases h) fnExactCommonSubstring_row_tie rfl ⟨rfl, rfl⟩ (by kernel_rfl) rfl
    (fun f fn hf hfn => by
      obtain rfl : f = 3 := Option.some.inj ((show Tryd.prog.funcNamed "loop.example/g01243/laws.FnExactCommonSubstring" = some 3 by kernel_rfl).symm.trans hf) |>.symm
      obtain rfl : fn = Tryd.f3 := (Option.some.inj (Tryd.func3.symm.trans hfn)).symm
      exact ⟨by kernel_rfl, fun j t ht => by
        rw [Tryd.params3] at ht
        have hm : t ∈ [9, 9] := by simpa using Array.mem_of_getElem? ht
        have hall : ([9, 9].all fun u => !Tryd.prog.wantsStandIn u) = true := by kernel_rfl
        exact (show Tryd.prog.wantsStandIn t = false by simpa using List.all_eq_true.1 hall t hm)⟩)
    (by kernel_rfl)
end Go.Proofs.YtpgobnhklnglhaaDoor
