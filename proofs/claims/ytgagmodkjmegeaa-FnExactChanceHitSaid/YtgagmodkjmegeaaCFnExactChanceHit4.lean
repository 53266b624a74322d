/-
  Part 5 of the proof that FnExactChanceHit returns true for every input: the functions that it reaches, each with its contract, and the law.
  Conditions: those of the given statement, no others.
-/
import Derived.Test.YtgagmodkjmegeaaCFnExactChanceHitW0
import Derived.Test.YtgagmodkjmegeaaRows
import Derived.WalkKit
import Derived.ProofKit
import Derived.OpenShut
import Derived.ShutString
import Derived.ChangeOld
import Derived.Below
import Derived.SizedLaws
import Derived.Test.YtgagmodkjmegeaaCFnExactChanceHit0
import Derived.Test.YtgagmodkjmegeaaCFnExactChanceHit3
import Derived.Test.YtgagmodkjmegeaaCFnExactChanceHit1
set_option linter.unusedVariables false
set_option linter.unusedSimpArgs false
namespace Go.Proofs.Ytgagmodkjmegeaa.L
open Go.RowKit Go.Proofs.Ytgagmodkjmegeaa.P Go.Proofs.Ytgagmodkjmegeaa.M Go.Proofs.YtgagmodkjmegeaaW.PrintWords Go.Proofs.YtgagmodkjmegeaaW.PrintLast Go.Proofs.YtgagmodkjmegeaaW.PrintMore
set_option linter.unusedVariables false
theorem pow_bd (K m i : Nat) (h1 : 1 ≤ K) (h2 : K ≤ 26) (h3 : i ≤ m) (h4 : m ≤ 12) : K ^ i ≤ 95428956661682176 := by
  have a1 : K ^ i ≤ 26 ^ i := Nat.pow_le_pow_left h2 i
  have a2 : (26 : Nat) ^ i ≤ 26 ^ 12 := Nat.pow_le_pow_right (by omega) (by omega)
  have a3 : (26 : Nat) ^ 12 = 95428956661682176 := by decide
  omega
theorem power_step (K i : Nat) (h : K ^ (i + 1) ≤ 95428956661682176) : wrap64 (((K ^ i : Nat) : Int) * (K : Int)) = ((K ^ (i + 1) : Nat) : Int) := by
  rw [← Int.natCast_mul, ← Nat.pow_succ, show i.succ = i + 1 from rfl, wrapN (by omega)]
theorem l9Power_ev (K m : Nat) (h1 : 1 ≤ K) (h2 : K ≤ 26) (h4 : m ≤ 12) : Ev (fun k => spec_l9Power.f k (K : Int) (m : Int)) ((K ^ m : Nat) : Int) := by
  have : ∀ d i, i + d = m → Ev (fun k => spec_l9Power.l0 k (K : Int) (m : Int) ((K ^ i : Nat) : Int) (i : Int)) ((K ^ m : Nat) : Int) := by
    intro d
    induction d with
    | zero =>
      intro i h
      obtain rfl : i = m := by omega
      exact Ev.step (fun k => spec_l9Power.l0.eq_2 ..) (Ev.ifF (by omega) (Ev.now _))
    | succ d ih =>
      intro i h
      refine Ev.step (fun k => spec_l9Power.l0.eq_2 ..) (Ev.ifT (by omega) ?_)
      rw [power_step K i (pow_bd K m (i + 1) h1 h2 (by omega) h4), wrap64_succ i (by omega)]
      exact ih (i + 1) (by omega)
  exact this m 0 (by omega)
theorem power_ev (K m : Nat) (h1 : 1 ≤ K) (h2 : K ≤ 26) (h4 : m ≤ 12) : Ev (fun k => impl_power.f k (K : Int) (m : Int)) ((K ^ m : Nat) : Int) := by
  have : ∀ d i, i + d = m → Ev (fun k => impl_power.l0 k (K : Int) ((K ^ i : Nat) : Int) (m : Int) (i : Int)) ((K ^ m : Nat) : Int) := by
    intro d
    induction d with
    | zero =>
      intro i h
      obtain rfl : i = m := by omega
      exact Ev.step (fun k => impl_power.l0.eq_2 ..) (Ev.ifF (by omega) (Ev.now _))
    | succ d ih =>
      intro i h
      refine Ev.step (fun k => impl_power.l0.eq_2 ..) (Ev.ifT (by omega) ?_)
      rw [power_step K i (pow_bd K m (i + 1) h1 h2 (by omega) h4), wrap64_succ i (by omega)]
      exact ih (i + 1) (by omega)
  exact this m 0 (by omega)
/-- Has a word the first K letters alone? -/
def ofK (K : Int) (w : Txt) : Bool := w.all fun c => decide (((c.toNat : Int) - 97) % 256 < K)
theorem l9First_ev (w : Txt) (K : Int) (hw : w.length ≤ 1000000) : Ev (fun k => spec_l9First.f k (B w) K) (ofK K w) := by
  have : ∀ d i, i + d = w.length → Ev (fun k => spec_l9First.l0 k (B w) K (i : Int)) ((w.drop i).all fun c => decide (((c.toNat : Int) - 97) % 256 < K)) := by
    intro d
    induction d with
    | zero =>
      intro i h
      rw [List.drop_of_length_le (by omega)]
      exact Ev.step (fun k => spec_l9First.l0.eq_2 ..) (Ev.ifF (by rw [size_B]; omega) (Ev.now _))
    | succ d ih =>
      intro i h
      have hi : i < w.length := by omega
      rw [drop_cons_getD 0 hi, List.all_cons]
      refine Ev.step (fun k => spec_l9First.l0.eq_2 ..) (Ev.ifT (by rw [size_B]; omega) (Ev.ifT (by omega) ?_))
      rw [bt_B w i hi]
      by_cases hc : (((w.getD i 0).toNat : Int) - 97) % 256 < K
      · rw [decide_eq_true hc, Bool.true_and]
        refine Ev.ifF (by omega) ?_
        rw [wrap64_succ i (by omega)]
        exact ih (i + 1) (by omega)
      · rw [decide_eq_false hc, Bool.false_and]
        exact Ev.ifT (by omega) (Ev.now _)
  exact this w.length 0 (by omega)
theorem isOf_ev (w : Txt) (K : Int) (hw : w.length ≤ 1000000) : Ev (fun k => impl_isOf.f k (B w) K) (ofK K w) := by
  have : ∀ d i, i + d = w.length → Ev (fun k => impl_isOf.l0 k (B w) K (w.length : Int) (i : Int)) ((w.drop i).all fun c => decide (((c.toNat : Int) - 97) % 256 < K)) := by
    intro d
    induction d with
    | zero =>
      intro i h
      rw [List.drop_of_length_le (by omega)]
      exact Ev.step (fun k => impl_isOf.l0.eq_2 ..) (Ev.ifF (by omega) (Ev.now _))
    | succ d ih =>
      intro i h
      have hi : i < w.length := by omega
      rw [drop_cons_getD 0 hi, List.all_cons]
      refine Ev.step (fun k => impl_isOf.l0.eq_2 ..) (Ev.ifT (by omega) (Ev.ifT (by omega) (Ev.ifT (by rw [size_B]; omega) ?_)))
      rw [bt_B w i hi]
      by_cases hc : (((w.getD i 0).toNat : Int) - 97) % 256 < K
      · rw [decide_eq_true hc, Bool.true_and]
        refine Ev.ifF (by omega) ?_
        rw [wrap64_succ i (by omega)]
        exact ih (i + 1) (by omega)
      · rw [decide_eq_false hc, Bool.false_and]
        exact Ev.ifT (by omega) (Ev.now _)
  have h := this w.length 0 (by omega)
  unfold impl_isOf.f
  rw [size_B]
  exact h
theorem random_eq (a b : Int) : spec_l9Random.f a b = some (decide ((1 ≤ a ∧ a ≤ 26) ∧ 0 ≤ b ∧ b ≤ 12)) ∧ impl_isRandom.f a b = some (decide ((1 ≤ a ∧ a ≤ 26) ∧ 0 ≤ b ∧ b ≤ 12)) := by
  unfold spec_l9Random.f impl_isRandom.f
  rw [l1In_eq, in_eq, l1In_eq, in_eq]
  by_cases h : 1 ≤ a ∧ a ≤ 26
  · rw [decide_eq_true h]; simp [h]
  · rw [decide_eq_false h]; simp [h]

end Go.Proofs.Ytgagmodkjmegeaa.L

namespace Go.Proofs.Ytgagmodkjmegeaa.L
open Go.RowKit Go.Proofs.Ytgagmodkjmegeaa.P Go.Proofs.Ytgagmodkjmegeaa.M Go.Proofs.YtgagmodkjmegeaaW.PrintWords Go.Proofs.YtgagmodkjmegeaaW.PrintLast Go.Proofs.YtgagmodkjmegeaaW.PrintMore
set_option linter.unusedVariables false
theorem filt_cons_of {α : Type} {f : α → Option Bool} {x : α} {r ys : List α} {b : Bool} (h1 : f x = some b) (h2 : filt f r = some ys) : filt f (x :: r) = some (if b = true then x :: ys else ys) := by
  obtain ⟨q, hq, rfl⟩ := filt_some h2
  rw [filt_of (fun y => (f y).getD false) (fun y hy => by
    rcases List.mem_cons.1 hy with rfl | hy
    · rw [h1]; rfl
    · rw [hq y hy]; rfl), List.filter_cons]
  have e : (r.filter fun y => (f y).getD false) = r.filter q := List.filter_congr fun y hy => by rw [hq y hy]; rfl
  rw [e, h1]
  cases b <;> rfl
theorem filtB_ev (f : Nat → ByteArray → Option Bool) : ∀ (ws : List Txt) (q : Txt → Bool), (∀ w ∈ ws, Ev (fun k => f k (B w)) (q w)) → Ev (fun k => filt (f k) (ws.map B)) ((ws.filter q).map B)
  | [], q, _ => Ev.now _
  | w :: r, q, h => by
    obtain ⟨K1, h1⟩ := h w (by simp)
    obtain ⟨K2, h2⟩ := filtB_ev f r q fun x hx => h x (List.mem_cons_of_mem _ hx)
    refine ⟨max K1 K2, fun k hk => ?_⟩
    have a1 := h1 k (by omega)
    have a2 := h2 k (by omega)
    show filt (f k) (B w :: r.map B) = _
    rw [filt_cons_of a1 a2, List.filter_cons]
    cases q w <;> rfl

end Go.Proofs.Ytgagmodkjmegeaa.L

namespace Go.Proofs.Ytgagmodkjmegeaa.L
open Go.RowKit Go.Proofs.Ytgagmodkjmegeaa.P Go.Proofs.Ytgagmodkjmegeaa.M Go.Proofs.YtgagmodkjmegeaaW.PrintWords Go.Proofs.YtgagmodkjmegeaaW.PrintLast Go.Proofs.YtgagmodkjmegeaaW.PrintMore
set_option linter.unusedVariables false
theorem eqA2_self (a b : Int) : laws_eqIntA2.f a b a b = some true := by unfold laws_eqIntA2.f; simp

end Go.Proofs.Ytgagmodkjmegeaa.L

namespace Go.Proofs.Ytgagmodkjmegeaa.Pure
open Go.RowKit Go.Proofs.Ytgagmodkjmegeaa.P Go.Proofs.Ytgagmodkjmegeaa.M Go.Proofs.YtgagmodkjmegeaaW.PrintWords Go.Proofs.YtgagmodkjmegeaaW.PrintLast Go.Proofs.YtgagmodkjmegeaaW.PrintMore
set_option linter.unusedVariables false
open Go.Proofs.Ytgagmodkjmegeaa.L
namespace ChanceHit
def hit (K n : Nat) (w : Txt) : Bool := decide (w.length = n) && ofK (K : Int) w
theorem spec_loop {ws : List Txt} (h : OkW ws) (K n : Nat) (h1 : 1 ≤ K) (h2 : K ≤ 26) (h3 : n ≤ 12) (S : Nat) (hS : S ≤ 40) : ∀ (d i s : Nat), i + d = ws.length → s + ((ws.drop i).filter (hit K n)).length = S →
    Ev (fun k => spec_ChanceHit.l0 k (K : Int) (n : Int) (s : Int) (ws.map B) (i : Int)) ((fr S (K ^ n)).1, (fr S (K ^ n)).2, true) := by
  have h40 := h.len
  intro d
  induction d with
  | zero =>
    intro i s q1 q2
    rw [List.drop_of_length_le (by omega), List.filter_nil, List.length_nil] at q2
    obtain rfl : s = S := by omega
    refine Ev.step (fun k => spec_ChanceHit.l0.eq_2 ..) (Ev.ifF (by rw [List.length_map]; omega) ?_)
    exact Ev.bind (l9Power_ev K n h1 h2 h3) (Ev.bind (a := fr s (K ^ n)) (cut_ev _ _ (by omega) (Nat.pow_pos h1) (by have := pow_bd K n n h1 h2 (Nat.le_refl _) h3; omega)) (Ev.now _))
  | succ d ih =>
    intro i s q1 q2
    have hi : i < ws.length := by omega
    have hwi := h.le _ (getD_mem hi)
    rw [drop_cons_getD [] hi, List.filter_cons] at q2
    refine Ev.step (fun k => spec_ChanceHit.l0.eq_2 ..) (Ev.ifT (by rw [List.length_map]; omega) (Ev.ifT (by omega) ?_))
    rw [rdB ws i hi, size_B, wrap64_succ i (by omega)]
    by_cases hn : (ws.getD i []).length = n
    · refine Ev.ifT (by omega) (Ev.bind (l9First_ev _ _ (by omega)) ?_)
      cases ho : ofK (K : Int) (ws.getD i []) with
      | true =>
        have hh : hit K n (ws.getD i []) = true := by unfold hit; rw [decide_eq_true hn, ho]; rfl
        rw [if_pos hh, List.length_cons] at q2
        refine Ev.ifT rfl ?_
        rw [wrap64_succ s (by omega)]
        exact ih (i + 1) _ (by omega) (by omega)
      | false =>
        have hh : ¬ hit K n (ws.getD i []) = true := by unfold hit; rw [ho, Bool.and_false]; exact Bool.false_ne_true
        rw [if_neg hh] at q2
        exact Ev.ifF Bool.false_ne_true (ih (i + 1) s (by omega) (by omega))
    · have hh : ¬ hit K n (ws.getD i []) = true := by unfold hit; rw [decide_eq_false hn, Bool.false_and]; exact Bool.false_ne_true
      rw [if_neg hh] at q2
      exact Ev.ifF (by omega) (ih (i + 1) s (by omega) (by omega))
theorem okFilter {ws : List Txt} (h : OkW ws) (p : Txt → Bool) : OkW (ws.filter p) := ⟨h.asc.filter _, Nat.le_trans (List.length_filter_le _ _) h.len, fun w hw => h.word w (List.mem_filter.1 hw).1⟩
theorem impl_g {ws : List Txt} (h : OkW ws) (K n : Nat) (h1 : 1 ≤ K) (h2 : K ≤ 26) (h3 : n ≤ 12) : Ev (fun k => impl_ChanceHit.g k (trN (preL ws) ws) (K : Int) (n : Int)) (fr (ws.filter (hit K n)).length (K ^ n)) := by
  have h40 := h.len
  have hok := okFilter h (hit K n)
  have hfl := hok.len
  unfold impl_ChanceHit.g
  refine Ev.bind (words_ev h) (Ev.ifT (by rw [List.length_map]; omega) (Ev.bind (a := (ws.filter (hit K n)).map B) ?_ (Ev.bind (trieOf_ev hok) (Ev.bind (words_ev hok) (Ev.bind (power_ev K n h1 h2 h3) ?_)))))
  · refine filtB_ev _ _ (hit K n) fun w hw => ?_
    unfold impl_ChanceHit.p hit
    rw [size_B]
    have := h.le w hw
    by_cases hn : w.length = n
    · rw [decide_eq_true hn, Bool.true_and]
      exact Ev.ifT (by omega) (isOf_ev w _ (by omega))
    · rw [decide_eq_false hn, Bool.false_and]
      exact Ev.ifF (by omega) (Ev.now _)
  · rw [List.length_map]
    exact frac_ev _ _ (by omega) (Nat.pow_pos h1) (by have := pow_bd K n n h1 h2 (Nat.le_refl _) h3; omega)
theorem both (N : List Nd) (a b : Int) : ∃ r : Int × Int × Bool, Ev (fun k => spec_ChanceHit.f k N a b) r ∧ Ev (fun k => impl_ChanceHit.f k N a b) r := by
  unfold spec_ChanceHit.f impl_ChanceHit.f
  have s0 : Ev (fun k => spec_ChanceHit.j0 k a b true N) (0, 0, false) := Ev.step (fun k => spec_ChanceHit.j0.eq_2 ..) (Ev.ifT rfl (Ev.now _))
  obtain ⟨r1, r2⟩ := random_eq a b
  rcases trie_both N with ⟨⟨ws, h, rfl⟩, e1, e2⟩ | ⟨_, e1, e2⟩
  · by_cases ha : (1 ≤ a ∧ a ≤ 26) ∧ 0 ≤ b ∧ b ≤ 12
    · rw [decide_eq_true ha] at r1 r2
      obtain ⟨K, rfl⟩ : ∃ K : Nat, a = (K : Int) := ⟨a.toNat, by omega⟩
      obtain ⟨n, rfl⟩ : ∃ n : Nat, b = (n : Int) := ⟨b.toNat, by omega⟩
      have k1 : 1 ≤ K := by omega
      have k2 : K ≤ 26 := by omega
      have k3 : n ≤ 12 := by omega
      have hfl := (okFilter h (hit K n)).len
      refine ⟨((fr (ws.filter (hit K n)).length (K ^ n)).1, (fr (ws.filter (hit K n)).length (K ^ n)).2, true), Ev.bind e1 (Ev.ifT rfl ?_), Ev.bind e2 (Ev.ifT rfl ?_)⟩
      · rw [r1]
        refine Ev.some_bind (Ev.step (fun k => spec_ChanceHit.j0.eq_2 ..) (Ev.ifF (by simp) (Ev.bind (l2Words_ev h) ?_)))
        exact spec_loop h K n k1 k2 k3 _ hfl ws.length 0 0 (by omega) (by rw [List.drop_zero]; omega)
      · rw [r2]
        exact Ev.some_bind (Ev.ifT rfl (Ev.bind (impl_g h K n k1 k2 k3) (Ev.now _)))
    · rw [decide_eq_false ha] at r1 r2
      refine ⟨(0, 0, false), Ev.bind e1 (Ev.ifT rfl ?_), Ev.bind e2 (Ev.ifT rfl ?_)⟩
      · rw [r1]; exact Ev.some_bind s0
      · rw [r2]; exact Ev.some_bind (Ev.ifF Bool.false_ne_true (Ev.now _))
  · exact ⟨(0, 0, false), Ev.bind e1 (Ev.ifF Bool.false_ne_true s0), Ev.bind e2 (Ev.ifF Bool.false_ne_true (Ev.now _))⟩
end ChanceHit
theorem FnExactChanceHit : laws_FnExactChanceHit.Pure := by
  intro l a b hl ha hb
  by_cases hs : l.length ≤ 1048576
  · obtain ⟨r, h1, h2⟩ := ChanceHit.both (toN l) a b
    refine Ev.rounds ?_
    unfold laws_FnExactChanceHit.f
    rw [szTrie_eq l hl, if_pos hs]
    refine Ev.some_bind (Ev.ifF (by omega) (Ev.bind (toTrie_ev l hs) (Ev.bind h1 (Ev.bind (toTrie_ev l hs) (Ev.bind h2 ?_)))))
    rw [eqA2_self]
    refine Ev.some_bind (Ev.ifT rfl (Ev.step (fun k => laws_FnExactChanceHit.j0.eq_2 ..) (Ev.ifF (by simp) (Ev.bind (toTrie_ev l hs) (Ev.bind (eqTrie_ev _ (by rw [toN_length]; omega)) (Ev.ifT rfl (Ev.now _)))))))
  · exact ⟨0, by unfold laws_FnExactChanceHit.f; rw [szTrie_eq l hl, if_neg hs]; rfl⟩

end Go.Proofs.Ytgagmodkjmegeaa.Pure

namespace Go.Proofs.Ytgagmodkjmegeaa.fnExactChanceHit
open Go.ChangeShapes Go.WideShapes Go.ChangeAt Go.RowKit Go.Proofs.Ytgagmodkjmegeaa.P
open Go.ChangeMaps (open_string shut_string)
set_option linter.unusedVariables false
theorem own : ownKnob Try.prog.godebug = none := by kernel_rfl
theorem laidOut : laidOutB Try.prog = true := by kernel_rfl
set_option maxRecDepth 100000 in
theorem lifted (os : Os) (started : os.Started) (H : Type) (enc : TypeId × Value → H) :
    ReturnsInHanded {} Try.checked os 7 .any (Rows.fnExactChanceHitSpec.pre6 enc Try.prog Try.f7 Rows.fnExactChanceHitRow.domain false) (Rows.fnExactChanceHitSpec.post enc Try.prog Try.f7 false true false false) := by
  refine returnsInHanded_of_change_sized (C := Try.checked) own started (by kernel_rfl) Try.func7
    (ChangeSpec.witness6 (enc := enc) (C := Try.checked) false ⟨#[], #[.agg #[.slice none 0 0], .int .i64 0, .int .i64 0], []⟩ 8 (by kernel_rfl) (by kernel_rfl) (by kernel_rfl) (by kernel_rfl)) ?_
  intro W base args ds gs before hval0 hW hcnd hsz0 _
  have hsz : (DataW.weightsEach Try.prog (Try.f7.params.toList ++ Rows.fnExactChanceHitSpec.plain.varTypes Try.prog) (ds ++ gs)).all (· ≤ reachBytes) = true := hsz0
  have hval : ∀ (j : Nat) t v, Try.f7.params[j]? = some t → args[j]? = some v → Value.okWide Try.prog W .any base t v := hval0
  have hW' := hW
  obtain ⟨p, q, hA0, hV, rfl, hfz, hnd⟩ := hW
  have hA : DataW.TrodAll enc Try.prog W 0 (fun _ => true) true Try.f7.params.toList args.toList ds p := hA0
  rw [Try.params7] at hA hval hsz
  obtain ⟨v0, vs0, d0, ds0, p0, q0, hargs, rfl, rfl, h0, r0⟩ := trodAll_cons hA
  obtain ⟨v1, vs1, d1, ds1, p1, q1, rfl, rfl, rfl, h1, r1⟩ := trodAll_cons r0
  obtain ⟨v2, vs2, d2, ds2, p2, q2, rfl, rfl, rfl, h2, r2⟩ := trodAll_cons r1
  obtain ⟨rfl, rfl, rfl⟩ := trodAll_nil r2
  obtain rfl : args = #[v0, v1, v2] := by cases args; simp_all
  obtain ⟨rfl, rfl⟩ := trodVars_none hV
  have k0 := h0
  have lt0 : ∀ x ∈ p0, x.block < W.heap.size := by obtain ⟨m, hm⟩ := k0; exact DataW.trod_lt m _ _ _ hm
  obtain ⟨A0, c0, l0, ev0, hc0, hr0⟩ := OT.trie (hval 0 24 v0 rfl rfl) h0
  subst ev0
  obtain ⟨a1, rfl, rfl, rfl, w1⟩ := open_int Try.underlying3 (hval 1 3 v1 rfl rfl) h1
  obtain ⟨a2, rfl, rfl, rfl, w2⟩ := open_int Try.underlying3 (hval 2 3 v2 rfl rfl) h2
  clear hA0 hval0 hsz0 hsz
  refine (laws_FnExactChanceHit.walk Pure.FnExactChanceHit W A0 c0 l0 hr0 hc0 a1 w1 a2 w2).mono fun e W' ⟨he, bel⟩ => ?_
  subst he
  exact ⟨_, rfl, _, _, _, [], _, [], hW', trodAll_mk1 (shut_bool Try.underlying4 _), (trodAll_cons_mk (Below.trod laidOut (by kernel_rfl) (of_decide_eq_true (by kernel_rfl)) k0 bel lt0) (trodAll_cons_mk (shut_int Try.underlying3 w1) (trodAll_cons_mk (shut_int Try.underlying3 w2) trodAll_mk0))), rfl, bel.frame _, fun h => by cases h⟩
theorem over : Rows.fnExactChanceHitRow.holds Try.pinned (OpenSpec.ofChange Rows.fnExactChanceHitSpec) :=
  OpenClaim.holds_of_wide 7 Try.f7 rfl rfl rfl rfl rfl rfl rfl ⟨rfl, rfl, rfl, rfl, rfl⟩ rfl rfl rfl rfl rfl (by kernel_rfl) Try.func7 (by kernel_rfl)
    (of_decide_eq_true (by kernel_rfl)) (by unfold Func.isWrapper; first | (rw [if_pos (by decide +kernel)]; kernel_rfl) | (rw [if_neg (by decide +kernel)]; exact ⟨rfl, rfl⟩))
    (fun os started H enc _ => lifted os started H enc)
theorem proved : Rows.FnExactChanceHitSaid := over
end Go.Proofs.Ytgagmodkjmegeaa.fnExactChanceHit
namespace Go.Proofs.Ytgagmodkjmegeaa
/-- The row, under a short name, for the claim. -/
theorem fnExactChanceHit_holds : Rows.FnExactChanceHitSaid := fnExactChanceHit.proved
end Go.Proofs.Ytgagmodkjmegeaa
