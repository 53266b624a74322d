/-
  Part 5 of the proof that FnExactMeanLetters returns true for every input: the functions that it reaches, each with its contract, and the law.
  Conditions: those of the given statement, no others.
-/
import Derived.Test.YtgagmodkjmegeaaCFnExactMeanLettersW0
import Derived.Test.YtgagmodkjmegeaaRows
import Derived.WalkKit
import Derived.ProofKit
import Derived.OpenShut
import Derived.ShutString
import Derived.ChangeOld
import Derived.Below
import Derived.SizedLaws
import Derived.Test.YtgagmodkjmegeaaCFnExactMeanLetters0
import Derived.Test.YtgagmodkjmegeaaCFnExactMeanLetters3
import Derived.Test.YtgagmodkjmegeaaCFnExactMeanLetters1
import Derived.Test.YtgagmodkjmegeaaCFnExactMeanLetters2
namespace Go.Proofs.Ytgagmodkjmegeaa.L
open Go.RowKit Go.Proofs.Ytgagmodkjmegeaa.P Go.Proofs.Ytgagmodkjmegeaa.M Go.Proofs.YtgagmodkjmegeaaW.PrintWords Go.Proofs.YtgagmodkjmegeaaW.PrintLast Go.Proofs.YtgagmodkjmegeaaW.PrintMore
set_option linter.unusedVariables false
theorem in_eq (a b c : Int) : impl_in.f a b c = some (decide (b ≤ a ∧ a ≤ c)) := by
  unfold impl_in.f
  by_cases h : b ≤ a
  · rw [if_pos (by omega)]; simp [h]
  · rw [if_neg (by omega)]; simp [h]
abbrev Nd := S80
/-! order of texts -/
theorem bytesLess_eq : ∀ (x y : Txt), Op.bytesLess x y = decide (x < y)
  | [], [] => by rw [decide_eq_false (txt_irrefl [])]; rfl
  | _ :: _, [] => by rw [decide_eq_false (List.not_lt_nil _)]; rfl
  | [], b :: y => by rw [decide_eq_true (List.nil_lt_cons b y)]; rfl
  | a :: x, b :: y => by
    rw [Op.bytesLess, bytesLess_eq x y, Bool.eq_iff_iff, decide_eq_true_eq, List.cons_lt_cons_iff]
    simp
theorem less_eq (x y : Txt) : cmp_Less_string.f (B x) (B y) = some (decide (x < y)) := by
  unfold cmp_Less_string.f cmp_isNaN_string.f
  rw [toList_B, toList_B, ← bytesLess_eq]
  simp
/-- No text is less than the one ahead of it. -/
def Srt (ws : List Txt) : Prop := ∀ j, j + 1 < ws.length → ¬ ws.getD (j + 1) [] < ws.getD j []
theorem Srt.le {ws : List Txt} (h : Srt ws) (i : Nat) : ∀ d, i + d < ws.length → ¬ ws.getD (i + d) [] < ws.getD i []
  | 0, _ => txt_irrefl _
  | d + 1, hd => fun hlt => by
    have h1 := h.le i d (by omega)
    have h2 := h (i + d) (by omega)
    exact h1 (List.lt_of_le_of_lt (List.not_lt.1 h2) hlt)
theorem srt_asc {ws : List Txt} (h : Asc ws) : Srt ws := fun j hj => txt_asymm (asc_get h hj (Nat.lt_succ_self j))
theorem isSorted_loop (ws : List Txt) (hl : ws.length ≤ 4611686018427387903) : ∀ (n : Nat), n < ws.length → ∃ b : Bool, (b = true ↔ ∀ j, j < n → ¬ ws.getD (j + 1) [] < ws.getD j []) ∧ Ev (fun k => slices_IsSorted_string_string.l0 k (ws.map B) (n : Int)) b := by
  intro n
  induction n with
  | zero =>
    intro _
    exact ⟨true, by simp, Ev.step (fun k => slices_IsSorted_string_string.l0.eq_2 ..) (Ev.ifF (by simp) (Ev.now _))⟩
  | succ n ih =>
    intro hn
    have hw : wrap64 (((n + 1 : Nat) : Int) - 1) = (n : Int) := by rw [wrap64_id (by omega) (by omega)]; omega
    by_cases hlt : ws.getD (n + 1) [] < ws.getD n []
    · refine ⟨false, ?_, Ev.step (fun k => slices_IsSorted_string_string.l0.eq_2 ..) (Ev.ifT (by omega) (Ev.ifT (by omega) (Ev.ifT (by rw [List.length_map]; omega) (Ev.ifT (by rw [hw]; omega) (Ev.ifT (by rw [hw, List.length_map]; omega) ?_)))))⟩
      · simp only [Bool.false_eq_true, false_iff]
        exact fun h => h n (Nat.lt_succ_self n) hlt
      · rw [hw, rdB ws (n + 1) hn, rdB ws n (by omega), less_eq, decide_eq_true hlt]
        exact Ev.some_bind (Ev.ifT rfl (Ev.now _))
    · obtain ⟨b, hb, he⟩ := ih (by omega)
      refine ⟨b, hb.trans ⟨fun h j hj => ?_, fun h j hj => h j (by omega)⟩, Ev.step (fun k => slices_IsSorted_string_string.l0.eq_2 ..) (Ev.ifT (by omega) (Ev.ifT (by omega) (Ev.ifT (by rw [List.length_map]; omega) (Ev.ifT (by rw [hw]; omega) (Ev.ifT (by rw [hw, List.length_map]; omega) ?_)))))⟩
      · by_cases e : j = n
        · rw [e]; exact hlt
        · exact h j (by omega)
      · rw [hw, rdB ws (n + 1) hn, rdB ws n (by omega), less_eq, decide_eq_false hlt]
        exact Ev.some_bind (Ev.ifF Bool.false_ne_true he)
theorem isSorted_ev (ws : List Txt) (hl : ws.length ≤ 4611686018427387903) : ∃ b : Bool, (b = true ↔ Srt ws) ∧ Ev (fun k => slices_IsSorted_string_string.f k (ws.map B)) b := by
  unfold slices_IsSorted_string_string.f
  rcases Nat.eq_zero_or_pos ws.length with h0 | h0
  · refine ⟨true, ⟨fun _ j hj => by omega, fun _ => rfl⟩, ?_⟩
    rw [List.length_map, h0]
    exact Ev.step (fun k => slices_IsSorted_string_string.l0.eq_2 ..) (Ev.ifF (by rw [wrap64_id (by omega) (by omega)]; omega) (Ev.now _))
  · obtain ⟨b, hb, he⟩ := isSorted_loop ws hl (ws.length - 1) (by omega)
    refine ⟨b, hb.trans ⟨fun h j hj => h j (by omega), fun h j hj => h j (by omega)⟩, ?_⟩
    rw [List.length_map, show wrap64 ((ws.length : Int) - 1) = ((ws.length - 1 : Nat) : Int) from by rw [wrap64_id (by omega) (by omega)]; omega]
    exact he
/-! a search by halves -/
theorem half_eq (i j : Nat) (h : i + j ≤ 4611686018427387903) : wrap64 ((IntKind.u64.wrap (wrap64 ((i : Int) + (j : Int)))) / 2) = (((i + j) / 2 : Nat) : Int) := by
  have e1 : wrap64 ((i : Int) + (j : Int)) = ((i + j : Nat) : Int) := by rw [wrap64_id (by omega) (by omega)]; omega
  have e2 : IntKind.u64.wrap (((i + j : Nat) : Int)) = ((i + j : Nat) : Int) := by
    simp [IntKind.wrap, IntKind.bits, IntKind.signed]; omega
  rw [e1, e2, wrap64_id (by omega) (by omega)]
  omega
theorem search_loop (ws : List Txt) (p : Txt) (hl : ws.length ≤ 1000000000) (hs : Srt ws) : ∀ (d i j : Nat), i + d = j → j ≤ ws.length → (∀ m, m < i → ws.getD m [] < p) → (∀ m, j ≤ m → m < ws.length → ¬ ws.getD m [] < p) →
    ∃ q : Nat, q ≤ ws.length ∧ (∀ m, m < q → ws.getD m [] < p) ∧ (∀ m, q ≤ m → m < ws.length → ¬ ws.getD m [] < p) ∧ Ev (fun k => slices_BinarySearch_string_string.l0 k (ws.map B) (B p) (ws.length : Int) (i : Int) (j : Int)) ((q : Int), decide (p ∈ ws)) := by
  intro d
  induction d using Nat.strongRecOn with
  | _ d ih =>
    intro i j h1 h2 h3 h4
    by_cases hij : i < j
    · have hh : (i + j) / 2 < ws.length := by omega
      by_cases hlt : ws.getD ((i + j) / 2) [] < p
      · obtain ⟨q, q1, q2, q3, q4⟩ := ih (j - ((i + j) / 2 + 1)) (by omega) ((i + j) / 2 + 1) j (by omega) h2 (fun m hm => by
          by_cases e : m = (i + j) / 2
          · rw [e]; exact hlt
          · by_cases hmi : m < i
            · exact h3 m hmi
            · have hle := hs.le m ((i + j) / 2 - m) (by omega)
              rw [show m + ((i + j) / 2 - m) = (i + j) / 2 from by omega] at hle
              exact List.lt_of_le_of_lt (List.not_lt.1 hle) hlt) h4
        refine ⟨q, q1, q2, q3, Ev.step (fun k => slices_BinarySearch_string_string.l0.eq_2 ..) (Ev.ifT (by omega) ?_)⟩
        rw [half_eq i j (by omega)]
        refine Ev.ifT (by omega) (Ev.ifT (by rw [List.length_map]; omega) ?_)
        rw [rdB ws _ hh, less_eq, decide_eq_true hlt]
        refine Ev.some_bind (Ev.ifT rfl ?_)
        rw [wrap64_succ _ (by omega)]
        exact q4
      · obtain ⟨q, q1, q2, q3, q4⟩ := ih ((i + j) / 2 - i) (by omega) i ((i + j) / 2) (by omega) (by omega) h3 (fun m hm hml => by
          have hle := hs.le ((i + j) / 2) (m - (i + j) / 2) (by omega)
          rw [show (i + j) / 2 + (m - (i + j) / 2) = m from by omega] at hle
          exact fun hp => hlt (List.lt_of_le_of_lt (List.not_lt.1 hle) hp))
        refine ⟨q, q1, q2, q3, Ev.step (fun k => slices_BinarySearch_string_string.l0.eq_2 ..) (Ev.ifT (by omega) ?_)⟩
        rw [half_eq i j (by omega)]
        refine Ev.ifT (by omega) (Ev.ifT (by rw [List.length_map]; omega) ?_)
        rw [rdB ws _ hh, less_eq, decide_eq_false hlt]
        exact Ev.some_bind (Ev.ifF Bool.false_ne_true q4)
    · obtain rfl : i = j := by omega
      refine ⟨i, h2, h3, h4, Ev.step (fun k => slices_BinarySearch_string_string.l0.eq_2 ..) (Ev.ifF (by omega) ?_)⟩
      by_cases hn : i < ws.length
      · refine Ev.ifT (by omega) (Ev.ifT (by omega) (Ev.ifT (by rw [List.length_map]; omega) ?_))
        rw [rdB ws i hn, toList_B, toList_B]
        by_cases e : ws.getD i [] = p
        · rw [decide_eq_true (show p ∈ ws from e ▸ getD_mem hn)]
          exact Ev.ifT e (Ev.now _)
        · have hm : ¬ p ∈ ws := fun hp => by
            obtain ⟨z1, z2⟩ := placeL_mem hp
            have hz : i ≤ placeL ws p := by
              by_cases hzi : placeL ws p < i
              · have := h3 _ hzi; rw [z2] at this; exact absurd this (txt_irrefl _)
              · omega
            have hle := hs.le i (placeL ws p - i) (by omega)
            rw [show i + (placeL ws p - i) = placeL ws p from by omega, z2] at hle
            exact e (txt_tri (h4 i (Nat.le_refl _) hn) hle)
          rw [decide_eq_false hm]
          refine Ev.ifF e ?_
          unfold slices_isNaN_string.f
          exact Ev.some_bind (Ev.ifF (by simp) (Ev.now _))
      · have hm : ¬ p ∈ ws := fun hp => by
          obtain ⟨z1, z2⟩ := placeL_mem hp
          have := h3 _ (show placeL ws p < i by omega)
          rw [z2] at this
          exact txt_irrefl _ this
        rw [decide_eq_false hm]
        exact Ev.ifF (by omega) (Ev.now _)
theorem search_ev (ws : List Txt) (p : Txt) (hl : ws.length ≤ 1000000000) (hs : Srt ws) : ∃ q : Nat, q ≤ ws.length ∧ (∀ m, m < q → ws.getD m [] < p) ∧ (∀ m, q ≤ m → m < ws.length → ¬ ws.getD m [] < p) ∧ Ev (fun k => slices_BinarySearch_string_string.f k (ws.map B) (B p)) ((q : Int), decide (p ∈ ws)) := by
  unfold slices_BinarySearch_string_string.f
  have := search_loop ws p hl hs ws.length 0 ws.length (by omega) (Nat.le_refl _) (fun m hm => absurd hm (Nat.not_lt_zero _)) (fun m h1 h2 => absurd h2 (by omega))
  rw [List.length_map]
  exact this
/-! sameness -/
theorem equal_loop (M N : List Nd) (hM : M.length ≤ 4611686018427387903) (he : M.length = N.length) : ∀ (d i : Nat), i + d = M.length → Ev (fun k => impl_Node.l0 k M N (M.length : Int) (i : Int)) (decide (M.drop i = N.drop i)) := by
  intro d
  induction d with
  | zero =>
    intro i h1
    refine Ev.step (fun k => impl_Node.l0.eq_2 ..) (Ev.ifF (by omega) ?_)
    rw [decide_eq_true (show M.drop i = N.drop i by rw [List.drop_of_length_le (by omega), List.drop_of_length_le (by omega)])]
    exact Ev.now _
  | succ d ih =>
    intro i h1
    refine Ev.step (fun k => impl_Node.l0.eq_2 ..) (Ev.ifT (by omega) (Ev.ifT (by omega) (Ev.ifT (by omega) (Ev.ifT (by omega) ?_))))
    rw [node_ne, rd_get M i (by omega), rd_get N i (by omega), List.drop_eq_getElem_cons (show i < M.length by omega), List.drop_eq_getElem_cons (show i < N.length by omega)]
    by_cases e : M[i] = N[i]
    · refine Ev.ifF (by simp [e]) ?_
      rw [wrap64_succ i (by omega), show decide (M[i] :: M.drop (i + 1) = N[i] :: N.drop (i + 1)) = decide (M.drop (i + 1) = N.drop (i + 1)) from decide_eq_decide.2 ⟨fun h => (List.cons.inj h).2, fun h => by rw [e, h]⟩]
      exact ih (i + 1) (by omega)
    · refine Ev.ifT (by simp [e]) ?_
      rw [show decide (M[i] :: M.drop (i + 1) = N[i] :: N.drop (i + 1)) = false from decide_eq_false fun h => e (List.cons.inj h).1]
      exact Ev.now _
theorem equal_ev (M N : List Nd) (hM : M.length ≤ 4611686018427387903) : Ev (fun k => impl_Node.f k M N) (decide (M = N)) := by
  unfold impl_Node.f
  by_cases he : M.length = N.length
  · refine Ev.ifT (by omega) ?_
    have := equal_loop M N hM he M.length 0 (by omega)
    rwa [List.drop_zero, List.drop_zero] at this
  · rw [decide_eq_false fun e => he (by rw [e])]
    exact Ev.ifF (by omega) (Ev.now _)
/-! prefixes -/
def prefGo : List Nd → List Txt → Option (List Txt)
  | [], acc => some acc
  | n :: r, acc => if 0 ≤ n.f1 ∧ n.f1 < (acc.length : Int) ∧ 0 ≤ n.f0 ∧ n.f0 ≤ 25 then prefGo r (acc ++ [acc.getD n.f1.toNat [] ++ [UInt8.ofNat (97 + n.f0.toNat)]]) else none
def prefR : Option (List Txt) → List ByteArray × Bool
  | some ps => (ps.map B, true)
  | none => ([], false)
theorem letter_eq (n : Int) (h0 : 0 ≤ n) (h1 : n ≤ 25) : impl_letter.f n = some (B [UInt8.ofNat (97 + n.toNat)]) := by
  unfold impl_letter.f
  rw [strOfNums_B]
  congr 3
  rw [wrap64_id (by omega) (by omega)]
  congr 1
  omega
theorem getD_le {acc : List Txt} {b : Nat} (h : ∀ p ∈ acc, p.length ≤ b) (n : Nat) : (acc.getD n []).length ≤ b := by
  by_cases hn : n < acc.length
  · exact h _ (getD_mem hn)
  · rw [List.getD_eq_getElem?_getD, List.getElem?_eq_none (by omega)]; simp
theorem pref_loop (N' : List Nd) (hN : N'.length ≤ 1000000) : ∀ (d i : Nat) (acc : List Txt), i + d = N'.length → acc.length = i + 1 → (∀ p ∈ acc, p.length ≤ i) →
    Ev (fun k => impl_Trie_prefixes.l0 k (acc.map B) N' (N'.length : Int) (i : Int)) (prefR (prefGo (N'.drop i) acc)) := by
  intro d
  induction d with
  | zero =>
    intro i acc h1 h2 h3
    rw [List.drop_of_length_le (by omega)]
    exact Ev.step (fun k => impl_Trie_prefixes.l0.eq_2 ..) (Ev.ifF (by omega) (Ev.now _))
  | succ d ih =>
    intro i acc h1 h2 h3
    have hi : i < N'.length := by omega
    rw [List.drop_eq_getElem_cons hi]
    refine Ev.step (fun k => impl_Trie_prefixes.l0.eq_2 ..) (Ev.ifT (by omega) (Ev.ifT (by omega) (Ev.ifT (by omega) ?_)))
    rw [rd_get N' i hi, in_eq]
    unfold prefGo
    by_cases ha : 0 ≤ N'[i].f1 ∧ N'[i].f1 ≤ (i : Int)
    · rw [decide_eq_true ha]
      refine Ev.some_bind (Ev.ifT rfl ?_)
      rw [in_eq]
      by_cases hb : 0 ≤ N'[i].f0 ∧ N'[i].f0 ≤ 25
      · rw [decide_eq_true hb, if_pos ⟨ha.1, by omega, hb.1, hb.2⟩]
        refine Ev.some_bind (Ev.ifT rfl (Ev.ifT ha.1 (Ev.ifT (by rw [List.length_map]; omega) ?_)))
        rw [letter_eq _ hb.1 hb.2]
        refine Ev.some_bind ?_
        obtain ⟨m, hm⟩ : ∃ m : Nat, N'[i].f1 = (m : Int) := ⟨N'[i].f1.toNat, by omega⟩
        have hml : m < acc.length := by omega
        have hmb := getD_le h3 m
        rw [hm, rdB acc m hml, Int.toNat_natCast]
        refine Ev.ifT (by rw [size_B, size_B, List.length_singleton]; omega) (Ev.ifT (by rw [List.length_map]; omega) ?_)
        rw [append_B, wrap64_succ i (by omega)]
        have := ih (i + 1) (acc ++ [acc.getD m [] ++ [UInt8.ofNat (97 + N'[i].f0.toNat)]]) (by omega) (by simp; omega) (fun p hp => by
          rcases List.mem_append.1 hp with hp | hp
          · have := h3 p hp; omega
          · rw [List.mem_singleton.1 hp]; simp; simpa using hmb)
        rw [List.map_append, List.map_singleton] at this
        exact this
      · rw [decide_eq_false hb, if_neg (fun h => hb h.2.2)]
        exact Ev.some_bind (Ev.ifF Bool.false_ne_true (Ev.now _))
    · rw [decide_eq_false ha, if_neg (fun h => ha ⟨h.1, by omega⟩)]
      exact Ev.some_bind (Ev.ifF Bool.false_ne_true (Ev.now _))
/-- What the prefixes of whatever nodes come to. -/
def prefN (N : List Nd) : Option (List Txt) := if 1 ≤ N.length ∧ N.length ≤ 481 then prefGo (N.drop 1) [[]] else none
theorem prefixes_ev (N : List Nd) : Ev (fun k => impl_Trie_prefixes.f k N) (prefR (prefN N)) := by
  unfold impl_Trie_prefixes.f prefN
  simp only [in_eq]
  by_cases h : 1 ≤ N.length ∧ N.length ≤ 481
  · rw [if_pos h, decide_eq_true (show (1 : Int) ≤ (N.length : Int) ∧ (N.length : Int) ≤ 481 by omega)]
    refine Ev.some_bind (Ev.ifT rfl (Ev.ifT (by omega) (Ev.some_bind ?_)))
    exact pref_loop (N.drop 1) (by rw [List.length_drop]; omega) (N.drop 1).length 0 [[]] (by omega) rfl (by simp)
  · rw [if_neg h, decide_eq_false (show ¬ ((1 : Int) ≤ (N.length : Int) ∧ (N.length : Int) ≤ 481) by omega)]
    exact Ev.some_bind (Ev.ifF Bool.false_ne_true (Ev.now _))
theorem letterB_of (m : Nat) (h : m ≤ 25) : letterB (UInt8.ofNat (97 + m)) = true := by
  have : (UInt8.ofNat (97 + m)).toNat = 97 + m := by simp; omega
  simp only [letterB, this, decide_eq_true_eq]; omega
theorem prefGo_ok : ∀ (r : List Nd) (acc ps : List Txt), prefGo r acc = some ps → (∀ p ∈ acc, ∀ c ∈ p, letterB c = true) → (∀ p ∈ ps, ∀ c ∈ p, letterB c = true) ∧ ps.length = acc.length + r.length
  | [], acc, ps, h, ha => by
    obtain rfl := Option.some.inj h
    exact ⟨ha, rfl⟩
  | n :: r, acc, ps, h, ha => by
    unfold prefGo at h
    by_cases hc : 0 ≤ n.f1 ∧ n.f1 < (acc.length : Int) ∧ 0 ≤ n.f0 ∧ n.f0 ≤ 25
    · rw [if_pos hc] at h
      obtain ⟨h1, h2⟩ := prefGo_ok r _ ps h (fun p hp c hcp => by
        rcases List.mem_append.1 hp with hp | hp
        · exact ha p hp c hcp
        · rw [List.mem_singleton.1 hp] at hcp
          rcases List.mem_append.1 hcp with hcp | hcp
          · exact ha _ (getD_mem (by omega)) c hcp
          · rw [List.mem_singleton.1 hcp]; exact letterB_of _ (by omega))
      exact ⟨h1, by rw [h2]; simp; omega⟩
    · rw [if_neg hc] at h; cases h
theorem letter_last {p : Txt} (hw : wordL p = true) (h : p ≠ []) : UInt8.ofNat (97 + (ltrOf p).toNat) = p.getD (p.length - 1) 0 := by
  obtain ⟨h1, h2, h3⟩ := ltrOf_bd hw h
  have h4 := letter_bd ((wordL_iff.1 hw).1 _ (getLast_mem h))
  have e : 97 + (ltrOf p).toNat = (p.getD (p.length - 1) 0).toNat := by omega
  rw [e]; simp
theorem trN_get {P ws : List Txt} (i : Nat) (h : i < (trN P ws).length) : (trN P ws)[i] = mkN (ndL P ws (P.getD i [])) := by
  have h2 : i < P.length := by rwa [trN_length] at h
  rw [← rdN P ws i h2, rd_get _ i h]
theorem prefGo_tr {P : List Txt} (ws : List Txt) (hA : Asc P) (hC : Clo P) (hW : ∀ p ∈ P, wordL p = true) : ∀ (d i : Nat), i + d = P.length → 0 < i → prefGo ((trN P ws).drop i) (P.take i) = some P := by
  intro d
  induction d with
  | zero =>
    intro i h1 h2
    rw [List.drop_of_length_le (by rw [trN_length]; omega), List.take_of_length_le (by omega)]
    rfl
  | succ d ih =>
    intro i h1 h2
    have hi : i < P.length := by omega
    have hit : i < (trN P ws).length := by rw [trN_length]; exact hi
    have hne := clo_pos hA hC hi h2
    have hm := getD_mem hi
    obtain ⟨j1, j2⟩ := clo_parent hA hC hi h2
    obtain ⟨_, b1, b2⟩ := ltrOf_bd (hW _ hm) hne
    rw [List.drop_eq_getElem_cons hit, trN_get i hit]
    have hx : mkN (ndL P ws (P.getD i [])) = ⟨ltrOf (P.getD i []), (placeL P (P.getD i []).dropLast : Int), decide (P.getD i [] ∈ ws)⟩ := by unfold mkN ndL; rw [if_neg hne, if_neg hne]
    rw [hx]
    unfold prefGo
    have hl : (P.take i).length = i := by rw [List.length_take]; omega
    rw [if_pos ⟨Int.natCast_nonneg _, by show ((placeL P (P.getD i []).dropLast : Nat) : Int) < ((P.take i).length : Int); rw [hl]; exact Int.ofNat_lt.2 j1, b1, b2⟩]
    simp only [Int.toNat_natCast]
    have hg : (P.take i).getD (placeL P (P.getD i []).dropLast) [] = (P.getD i []).dropLast := by
      rw [getD_lt [] (by rw [hl]; exact j1), List.getElem_take, ← getD_lt [] (by omega), j2]
    rw [hg, letter_last (hW _ hm) hne, dropLast_getD _ hne, ← take_succ_getD [] hi]
    exact ih (i + 1) (by omega) (by omega)
theorem prefN_tr {ws : List Txt} (h : OkW ws) : prefN (trN (preL ws) ws) = some (preL ws) := by
  obtain ⟨z1, z2⟩ := clo_zero (asc_preL ws) (clo_preL ws)
  unfold prefN
  rw [trN_length, if_pos ⟨z1, h.pre⟩]
  have := prefGo_tr ws (asc_preL ws) (clo_preL ws) (fun p hp => preL_word h.word hp) ((preL ws).length - 1) 1 (by omega) (by omega)
  rw [show (preL ws).take 1 = [[]] from by rw [take_succ_getD [] z1, z2]; rfl] at this
  exact this
/-! words -/
def wordsGo : List Nd → List Txt → List Txt
  | n :: r, p :: ps => if n.f2 = true then p :: wordsGo r ps else wordsGo r ps
  | _, _ => []
theorem wordsGo_mem : ∀ (N : List Nd) (ps : List Txt) (w : Txt), w ∈ wordsGo N ps → w ∈ ps
  | n :: r, p :: ps, w, h => by
    unfold wordsGo at h
    by_cases hf : n.f2 = true
    · rw [if_pos hf] at h
      rcases List.mem_cons.1 h with e | h
      · rw [e]; exact List.mem_cons_self
      · exact List.mem_cons_of_mem _ (wordsGo_mem r ps w h)
    · rw [if_neg hf] at h
      exact List.mem_cons_of_mem _ (wordsGo_mem r ps w h)
  | [], _, _, h => by simp [wordsGo] at h
  | _ :: _, [], _, h => by simp [wordsGo] at h
theorem wordsGo_len : ∀ (N : List Nd) (ps : List Txt), (wordsGo N ps).length ≤ N.length
  | n :: r, p :: ps => by
    have := wordsGo_len r ps
    unfold wordsGo
    by_cases hf : n.f2 = true
    · rw [if_pos hf, List.length_cons, List.length_cons]; omega
    · rw [if_neg hf, List.length_cons]; omega
  | [], _ => by simp [wordsGo]
  | _ :: _, [] => by simp [wordsGo]
theorem wordsGo_tr (P ws : List Txt) : ∀ Q : List Txt, wordsGo (Q.map fun p => mkN (ndL P ws p)) Q = Q.filter fun p => decide (p ∈ ws)
  | [] => rfl
  | q :: Q => by
    rw [List.map_cons, wordsGo, wordsGo_tr P ws Q, List.filter_cons]
    rfl
theorem words_loop (N : List Nd) (ps : List Txt) (hN : N.length ≤ 1000000) (hp : ps.length = N.length) : ∀ (d i : Nat) (acc : List Txt), i + d = N.length → acc.length ≤ i →
    Ev (fun k => impl_Trie_words.l0 k (ps.map B) (acc.map B) N (N.length : Int) (i : Int)) ((acc ++ wordsGo (N.drop i) (ps.drop i)).map B) := by
  intro d
  induction d with
  | zero =>
    intro i acc h1 h2
    rw [List.drop_of_length_le (by omega)]
    exact Ev.step (fun k => impl_Trie_words.l0.eq_2 ..) (Ev.ifF (by omega) (by simpa [wordsGo] using Ev.now _))
  | succ d ih =>
    intro i acc h1 h2
    have hi : i < N.length := by omega
    rw [List.drop_eq_getElem_cons hi, drop_cons_getD [] (show i < ps.length by omega), wordsGo]
    refine Ev.step (fun k => impl_Trie_words.l0.eq_2 ..) (Ev.ifT (by omega) (Ev.ifT (by omega) (Ev.ifT (by omega) ?_)))
    rw [rd_get N i hi]
    by_cases hf : N[i].f2 = true
    · rw [if_pos hf]
      refine Ev.ifT hf (Ev.ifT (by rw [List.length_map]; omega) (Ev.ifT (by rw [List.length_map]; omega) ?_))
      rw [rdB ps i (by omega), wrap64_succ i (by omega)]
      have := ih (i + 1) (acc ++ [ps.getD i []]) (by omega) (by simp; omega)
      rw [List.map_append (l₁ := acc), List.map_singleton, List.append_assoc] at this
      exact this
    · rw [if_neg hf]
      refine Ev.ifF hf ?_
      rw [wrap64_succ i (by omega)]
      exact ih (i + 1) acc (by omega) (by omega)
theorem words_of {N : List Nd} {ps : List Txt} (h : prefN N = some ps) : N.length ≤ 481 ∧ ps.length = N.length ∧ (∀ p ∈ ps, ∀ c ∈ p, letterB c = true) ∧ Ev (fun k => impl_Trie_words.f k N) ((wordsGo N ps).map B) := by
  have hp := prefixes_ev N
  rw [h] at hp
  unfold prefN at h
  by_cases hn : 1 ≤ N.length ∧ N.length ≤ 481
  · rw [if_pos hn] at h
    obtain ⟨h1, h2⟩ := prefGo_ok _ _ _ h (by simp)
    rw [List.length_drop, List.length_singleton] at h2
    refine ⟨hn.2, by omega, h1, ?_⟩
    unfold impl_Trie_words.f
    refine Ev.bind hp ?_
    exact words_loop N ps (by omega) (by omega) N.length 0 [] (by omega) (by simp)
  · rw [if_neg hn] at h; cases h
theorem words_ev {ws : List Txt} (h : OkW ws) : Ev (fun k => impl_Trie_words.f k (trN (preL ws) ws)) (ws.map B) := by
  obtain ⟨_, _, _, h4⟩ := words_of (prefN_tr h)
  have e : wordsGo (trN (preL ws) ws) (preL ws) = ws := by
    have : trN (preL ws) ws = (preL ws).map fun p => mkN (ndL (preL ws) ws p) := by unfold trN nodesL; rw [List.map_map]; rfl
    rw [this, wordsGo_tr, filter_preL h.asc]
  rwa [e] at h4
theorem prefixes_tr {ws : List Txt} (h : OkW ws) : Ev (fun k => impl_Trie_prefixes.f k (trN (preL ws) ws)) ((preL ws).map B, true) := by
  have := prefixes_ev (trN (preL ws) ws)
  rw [prefN_tr h] at this
  exact this
/-! the trie of words -/
theorem trieOf_in (ws0 xs : List Txt) (w : Txt) (hw : w.length ≤ 12) (i : Nat) (hi : i ≤ 100000) (r : List Nd) (acc2 : List Txt) (hr : Ev (fun k => impl_trieOf.l0 k (ws0.map B) (acc2.map B) (xs.map B) (xs.length : Int) ((i + 1 : Nat) : Int)) r) :
    ∀ (d n : Nat) (acc : List Txt), n + d = w.length → acc ++ begF w (n + 1) d = acc2 → acc2.length ≤ 1000000 → Ev (fun k => impl_trieOf.l1 k (ws0.map B) (acc.map B) (B w) (xs.map B) (xs.length : Int) (i : Int) (w.length : Int) (n : Int)) r := by
  intro d
  induction d with
  | zero =>
    intro n acc h1 h2 h3
    rw [begF, List.append_nil] at h2
    subst h2
    refine Ev.step (fun k => impl_trieOf.l1.eq_2 ..) (Ev.ifF (by omega) ?_)
    rw [wrap64_succ i (by omega)]
    exact hr
  | succ d ih =>
    intro n acc h1 h2 h3
    have hl : acc.length ≤ 1000000 := by rw [← h2, List.length_append] at h3; omega
    refine Ev.step (fun k => impl_trieOf.l1.eq_2 ..) (Ev.ifT (by omega) ?_)
    rw [wrap64_succ n (by omega)]
    refine Ev.ifT (by omega) (Ev.ifT (by rw [size_B]; omega) (Ev.ifT (by rw [List.length_map]; omega) ?_))
    rw [extract_B, List.drop_zero, Int.toNat_natCast, Nat.sub_zero]
    have := ih (n + 1) (acc ++ [w.take (n + 1)]) (by omega) (by rw [← h2, begF]; simp) h3
    rw [List.map_append, List.map_singleton] at this
    exact this
theorem trieOf_out (ws0 xs : List Txt) (hl : xs.length ≤ 1000) (hw : ∀ w ∈ xs, w.length ≤ 12) (r : List Nd) (hr : Ev (fun k => impl_trieOf.l2 k (ws0.map B) ((preL xs).map B) ((preL xs).length : Int) 0 []) r) :
    ∀ (d i : Nat) (acc : List Txt), i + d = xs.length → acc ++ (xs.drop i).flatMap begs = [] :: xs.flatMap begs → Ev (fun k => impl_trieOf.l0 k (ws0.map B) (acc.map B) (xs.map B) (xs.length : Int) (i : Int)) r := by
  have hall := flatMap_begs_length xs hw
  have hpl := preL_length hw
  intro d
  induction d with
  | zero =>
    intro i acc h1 h2
    rw [List.drop_of_length_le (by omega), List.flatMap_nil, List.append_nil] at h2
    subst h2
    refine Ev.step (fun k => impl_trieOf.l0.eq_2 ..) (Ev.ifF (by omega) ?_)
    rw [set_eq _ (by rw [List.length_cons]; omega)]
    refine Ev.some_bind (Ev.ifT ?_ ?_)
    · unfold SM.okL
      rw [Bool.and_eq_true, List.all_eq_true, decide_eq_true_eq]
      refine ⟨fun x hx => ?_, by rw [List.length_map]; show (preL xs).length ≤ _; omega⟩
      obtain ⟨y, hy, rfl⟩ := List.mem_map.1 hx
      have hy' : y ∈ preL xs := hy
      have : y.length ≤ 12 := by
        rcases mem_preL.1 hy' with rfl | ⟨w, hw', _, hp⟩
        · simp
        · exact Nat.le_trans hp.length_le (hw w hw')
      rw [decide_eq_true_eq, size_B]; omega
    · rw [List.length_map]
      exact hr
  | succ d ih =>
    intro i acc h1 h2
    have hi : i < xs.length := by omega
    rw [drop_cons_getD [] hi, List.flatMap_cons, ← List.append_assoc] at h2
    refine Ev.step (fun k => impl_trieOf.l0.eq_2 ..) (Ev.ifT (by omega) (Ev.ifT (by omega) (Ev.ifT (by rw [List.length_map]; omega) ?_)))
    rw [rdB xs i hi, size_B]
    have hlen : (acc ++ begs (xs.getD i [])).length ≤ 1000000 := by
      have := congrArg List.length h2
      rw [List.length_append, List.length_cons] at this
      omega
    exact trieOf_in ws0 xs _ (hw _ (getD_mem hi)) i (by omega) r _ (ih (i + 1) _ (by omega) h2) (xs.getD i []).length 0 acc (by omega) (by rw [begs_begF]) hlen
theorem at_take {P : List Txt} (hA : Asc P) (q : Txt) (j : Nat) (hj : j < P.length) (hq : P.getD j [] = q) : ∀ n, n ≤ P.length → j < n → SM.at_ (List.take n (P.map B)) (B q) = (j : Int) := by
  intro n
  induction n with
  | zero => intro _ h; omega
  | succ n ih =>
    intro h1 h2
    have hn : n < P.length := by omega
    rw [← List.map_take, take_succ_getD [] hn, List.map_append, List.map_singleton]
    unfold SM.at_
    rw [List.reverse_append, List.reverse_singleton, List.singleton_append, SM.atR, data_B, data_B]
    by_cases e : P.getD n [] = q
    · have : n = j := asc_inj hA hn hj (e.trans hq.symm)
      rw [if_pos e, List.length_reverse, List.length_map, List.length_take]; omega
    · have hjn : j < n := by
        rcases Nat.lt_or_ge j n with h | h
        · exact h
        · have : j = n := by omega
          subst this; exact absurd hq e
      rw [if_neg e, List.map_take]
      exact ih (by omega) hjn
theorem trieOf_nodes {ws P : List Txt} (hs : Srt ws) (hA : Asc P) (hC : Clo P) (hW : ∀ p ∈ P, wordL p = true) (hP : P.length ≤ 100000) (hl : ws.length ≤ 100000) : ∀ (d i : Nat) (acc : List Nd), i + d = P.length → acc.length ≤ i →
    Ev (fun k => impl_trieOf.l2 k (ws.map B) (P.map B) (P.length : Int) (i : Int) acc) (acc ++ ((P.drop i).map fun p => mkN (ndL P ws p))) := by
  intro d
  induction d with
  | zero =>
    intro i acc h1 h2
    rw [List.drop_of_length_le (by omega), List.map_nil, List.append_nil]
    exact Ev.step (fun k => impl_trieOf.l2.eq_2 ..) (Ev.ifF (by omega) (Ev.now _))
  | succ d ih =>
    intro i acc h1 h2
    have hi : i < P.length := by omega
    have hm := getD_mem hi
    rw [drop_cons_getD [] hi, List.map_cons]
    refine Ev.step (fun k => impl_trieOf.l2.eq_2 ..) (Ev.ifT (by omega) (Ev.ifT (by omega) (Ev.ifT (by rw [List.length_map]; omega) ?_)))
    rw [rdB P i hi]
    obtain ⟨q, _, _, _, hq⟩ := search_ev ws (P.getD i []) (by omega) hs
    refine Ev.bind hq ?_
    have hcons : ∀ x : Nd, acc ++ (x :: (P.drop (i + 1)).map fun p => mkN (ndL P ws p)) = (acc ++ [x]) ++ (P.drop (i + 1)).map fun p => mkN (ndL P ws p) := fun x => by simp
    rw [hcons, toList_B]
    by_cases hp : P.getD i [] = []
    · refine Ev.ifT hp (Ev.ifT (by omega) ?_)
      have hx : mkN (ndL P ws (P.getD i [])) = ⟨-1, -1, decide (P.getD i [] ∈ ws)⟩ := by unfold mkN ndL; rw [if_pos hp, if_pos hp]
      rw [hx, wrap64_succ i (by omega)]
      exact ih (i + 1) _ (by omega) (by simp; omega)
    · have h0 : 0 < i := by
        rcases Nat.eq_zero_or_pos i with e | e
        · rw [e, (clo_zero hA hC).2] at hp; exact absurd rfl hp
        · exact e
      have hlen := List.length_pos_iff.2 hp
      have h12 := (wordL_iff.1 (hW _ hm)).2
      obtain ⟨j1, j2⟩ := clo_parent hA hC hi h0
      have hw1 : wrap64 (((B (P.getD i [])).size : Int) - 1) = ((P.getD i []).length - 1 : Nat) := by rw [size_B, wrap64_id (by omega) (by omega)]; omega
      rw [hw1]
      refine Ev.ifF hp (Ev.ifT (by omega) (Ev.ifT (by rw [size_B]; omega) (Ev.ifT (by rw [size_B]; omega) (Ev.ifT (by omega) ?_))))
      rw [extract_B, List.drop_zero, Int.toNat_natCast, Int.toNat_natCast, Nat.sub_zero, ← List.dropLast_eq_take, at_take hA _ _ (by omega) j2 (i + 1) (by omega) (by omega)]
      have hx : mkN (ndL P ws (P.getD i [])) = ⟨((bt (B (P.getD i [])) (((P.getD i []).length - 1 : Nat) : Int)) - 97) % 256, (placeL P (P.getD i []).dropLast : Int), decide (P.getD i [] ∈ ws)⟩ := by
        unfold mkN ndL
        rw [if_neg hp, if_neg hp, bt_B _ _ (by omega)]
        rfl
      rw [hx, wrap64_succ i (by omega)]
      exact ih (i + 1) _ (by omega) (by simp; omega)
/-- The trie of words in order, which may be there twice. -/
theorem trieOf_srt {ws : List Txt} (hs : Srt ws) (hw : ∀ w ∈ ws, wordL w = true) (hl : ws.length ≤ 1000) : Ev (fun k => impl_trieOf.f k (ws.map B)) (trN (preL ws) ws) := by
  have hle : ∀ w ∈ ws, w.length ≤ 12 := fun w h => (wordL_iff.1 (hw w h)).2
  have hpl := preL_length hle
  have hn := trieOf_nodes hs (asc_preL ws) (clo_preL ws) (fun p hp => preL_word hw hp) (by omega) (by omega) (preL ws).length 0 [] (by omega) (by simp)
  rw [List.drop_zero, List.nil_append] at hn
  have e : (preL ws).map (fun p => mkN (ndL (preL ws) ws p)) = trN (preL ws) ws := by unfold trN nodesL; rw [List.map_map]; rfl
  rw [e] at hn
  unfold impl_trieOf.f
  rw [List.length_map]
  exact trieOf_out ws ws hl hle _ hn ws.length 0 [[]] (by omega) rfl
theorem trieOf_ev {ws : List Txt} (h : OkW ws) : Ev (fun k => impl_trieOf.f k (ws.map B)) (trN (preL ws) ws) := trieOf_srt (srt_asc h.asc) h.word (by have := h.len; omega)
theorem trN_set {ws : List Txt} : trN (preL ws) ws = trN (preL (setL ws)) (setL ws) := by
  have e : preL (setL ws) = preL ws := preL_congr fun w => mem_setL ws w
  rw [e]
  unfold trN nodesL
  rw [List.map_map, List.map_map]
  refine List.map_congr_left fun p _ => ?_
  show mkN (ndL (preL ws) ws p) = mkN (ndL (preL ws) (setL ws) p)
  unfold ndL
  rw [show decide (p ∈ ws) = decide (p ∈ setL ws) from decide_eq_decide.2 (mem_setL ws p).symm]
/-! validity -/
theorem isTrie_ev (N : List Nd) : ∃ b : Bool, (b = true ↔ IsTr N) ∧ Ev (fun k => impl_isTrie.f k N) b := by
  have hpre := prefixes_ev N
  have no : ∀ M : List Nd, Ev (fun k => impl_isTrie.j0 k true M) false := fun M => Ev.step (fun k => impl_isTrie.j0.eq_2 ..) (Ev.ifT rfl (Ev.now _))
  cases hp : prefN N with
  | none =>
    rw [hp] at hpre
    refine ⟨false, ?_, ?_⟩
    · simp only [Bool.false_eq_true, false_iff]
      rintro ⟨ws, h, rfl⟩
      rw [prefN_tr h] at hp; cases hp
    · unfold impl_isTrie.f
      exact Ev.bind hpre (Ev.ifF Bool.false_ne_true (no N))
  | some ps =>
    rw [hp] at hpre
    obtain ⟨w1, w2, w3, w4⟩ := words_of hp
    have hany : impl_isTrie_any.f (ps.map B) = some (decide (∃ p ∈ ps, 12 < p.length)) := by
      unfold impl_isTrie_any.f
      congr 1
      rw [Bool.eq_iff_iff, List.any_eq_true, decide_eq_true_eq]
      constructor
      · rintro ⟨x, hx, e⟩
        obtain ⟨y, hy, rfl⟩ := List.mem_map.1 hx
        refine ⟨y, hy, ?_⟩
        unfold impl_isTrie_any.p at e
        rw [size_B, decide_eq_true_eq] at e
        omega
      · rintro ⟨y, hy, e⟩
        refine ⟨B y, List.mem_map.2 ⟨y, hy, rfl⟩, ?_⟩
        unfold impl_isTrie_any.p
        rw [size_B, decide_eq_true_eq]
        omega
    by_cases hlong : ∃ p ∈ ps, 12 < p.length
    · rw [decide_eq_true hlong] at hany
      refine ⟨false, ?_, ?_⟩
      · simp only [Bool.false_eq_true, false_iff]
        rintro ⟨ws, h, rfl⟩
        rw [prefN_tr h] at hp
        obtain rfl := Option.some.inj hp
        obtain ⟨p, hpm, hpl⟩ := hlong
        have := (wordL_iff.1 (preL_word h.word hpm)).2
        omega
      · unfold impl_isTrie.f
        refine Ev.bind hpre (Ev.ifT rfl ?_)
        show Ev (fun k => (impl_isTrie_any.f (ps.map B)).bind _) false
        rw [hany]
        exact Ev.some_bind (no N)
    · rw [decide_eq_false hlong] at hany
      have hword : ∀ w ∈ wordsGo N ps, wordL w = true := fun w hw => by
        have hm := wordsGo_mem N ps w hw
        refine wordL_iff.2 ⟨w3 w hm, ?_⟩
        rcases Nat.lt_or_ge 12 w.length with h | h
        · exact absurd ⟨w, hm, h⟩ hlong
        · exact h
      have hwl := wordsGo_len N ps
      have hcase : ∀ b : Bool, Ev (fun k => impl_isTrie.j0 k false N) b → Ev (fun k => impl_isTrie.f k N) b := fun b hb => by
        unfold impl_isTrie.f
        refine Ev.bind hpre (Ev.ifT rfl ?_)
        show Ev (fun k => (impl_isTrie_any.f (ps.map B)).bind _) b
        rw [hany]
        exact Ev.some_bind hb
      have hval : ∀ ws, OkW ws → N = trN (preL ws) ws → wordsGo N ps = ws := fun ws h e => by
        subst e
        rw [prefN_tr h] at hp
        obtain rfl := Option.some.inj hp
        have : trN (preL ws) ws = (preL ws).map fun p => mkN (ndL (preL ws) ws p) := by unfold trN nodesL; rw [List.map_map]; rfl
        rw [this, wordsGo_tr, filter_preL h.asc]
      by_cases h40 : (wordsGo N ps).length ≤ 40
      · obtain ⟨b, hb, hsv⟩ := isSorted_ev (wordsGo N ps) (by omega)
        by_cases hs : Srt (wordsGo N ps)
        · have hbt := hb.2 hs
          subst hbt
          refine ⟨decide (trN (preL (wordsGo N ps)) (wordsGo N ps) = N), ?_, hcase _ ?_⟩
          · rw [decide_eq_true_eq]
            constructor
            · intro e
              refine ⟨setL (wordsGo N ps), ⟨asc_setL _, Nat.le_trans (setL_length_le _) h40, fun w hw => hword w ((mem_setL _ w).1 hw)⟩, ?_⟩
              rw [← trN_set, e]
            · rintro ⟨ws, h, e⟩
              rw [hval ws h e, e]
          · refine Ev.step (fun k => impl_isTrie.j0.eq_2 ..) (Ev.ifF Bool.false_ne_true (Ev.bind w4 (Ev.ifT (by rw [List.length_map]; omega) (Ev.bind hsv (Ev.ifT rfl (Ev.bind (trieOf_srt hs hword (by omega)) (Ev.bind (equal_ev _ _ ?_) (Ev.now _))))))))
            rw [trN_length]
            have := preL_length (ws := wordsGo N ps) (fun w hw => (wordL_iff.1 (hword w hw)).2)
            omega
        · have hbf : b = false := by
            cases b with
            | false => rfl
            | true => exact absurd (hb.1 rfl) hs
          subst hbf
          refine ⟨false, ?_, hcase _ (Ev.step (fun k => impl_isTrie.j0.eq_2 ..) (Ev.ifF Bool.false_ne_true (Ev.bind w4 (Ev.ifT (by rw [List.length_map]; omega) (Ev.bind hsv (Ev.ifF Bool.false_ne_true (Ev.now _)))))))⟩
          simp only [Bool.false_eq_true, false_iff]
          rintro ⟨ws, h, e⟩
          exact hs (by rw [hval ws h e]; exact srt_asc h.asc)
      · refine ⟨false, ?_, hcase _ (Ev.step (fun k => impl_isTrie.j0.eq_2 ..) (Ev.ifF Bool.false_ne_true (Ev.bind w4 (Ev.ifF (by rw [List.length_map]; omega) (Ev.now _)))))⟩
        simp only [Bool.false_eq_true, false_iff]
        rintro ⟨ws, h, e⟩
        rw [hval ws h e] at h40
        exact h40 h.len

end Go.Proofs.Ytgagmodkjmegeaa.L

namespace Go.Proofs.Ytgagmodkjmegeaa.L
open Go.RowKit Go.Proofs.Ytgagmodkjmegeaa.P Go.Proofs.Ytgagmodkjmegeaa.M Go.Proofs.YtgagmodkjmegeaaW.PrintWords Go.Proofs.YtgagmodkjmegeaaW.PrintLast Go.Proofs.YtgagmodkjmegeaaW.PrintMore
set_option linter.unusedVariables false
def toN (l : List S82) : List Nd := l.map fun x => ⟨x.f0, x.f1, x.f2⟩
theorem toN_length (l : List S82) : (toN l).length = l.length := by simp [toN]
theorem szTrie_eq (l : List S82) (h : l.length ≤ 9223372036854775807) : laws_szTrie.f l 1048576 = some (if l.length ≤ 1048576 then 1048576 - (l.length : Int) else -1) := by
  unfold laws_szTrie.f laws_szNodeS.f
  rw [wrap64_id (by omega) (by omega)]
  by_cases hs : l.length ≤ 1048576
  · rw [if_neg (by omega), if_pos hs, Option.bind_some, if_neg (by omega)]
  · rw [if_pos (by omega), if_neg hs, Option.bind_some, if_pos (by omega)]
theorem toNodeS_loop (l : List S82) (hl : l.length ≤ 1048576) : ∀ (d i : Nat), i + d = l.length → Ev (fun k => laws_toNodeS.l0 k l ((toN l).take i ++ List.replicate ((toN l).length - i) z80) (i : Int)) (toN l) := by
  intro d
  induction d with
  | zero =>
    intro i h
    rw [List.take_of_length_le (by rw [toN_length]; omega), show (toN l).length - i = 0 from by rw [toN_length]; omega, List.replicate_zero, List.append_nil]
    exact Ev.step (fun k => laws_toNodeS.l0.eq_2 ..) (Ev.ifF (by omega) (Ev.now _))
  | succ d ih =>
    intro i h
    have hi : i < l.length := by omega
    have hi2 : i < (toN l).length := by rw [toN_length]; exact hi
    have hlen : ((toN l).take i ++ List.replicate ((toN l).length - i) z80).length = l.length := by
      rw [List.length_append, List.length_take, List.length_replicate, toN_length]; omega
    refine Ev.step (fun k => laws_toNodeS.l0.eq_2 ..) (Ev.ifT (by omega) (Ev.ifT (by omega) ?_))
    unfold laws_toNode.f
    refine Ev.some_bind (Ev.ifT (by rw [hlen]; omega) ?_)
    have hx : (⟨(rd_T82 l (i : Int)).f0, (rd_T82 l (i : Int)).f1, (rd_T82 l (i : Int)).f2⟩ : Nd) = (toN l).getD i z80 := by
      unfold rd_T82 toN
      rw [Int.toNat_natCast, getD_lt _ hi, getD_lt _ (by simpa using hi), List.getElem_map]
    rw [hx, Int.toNat_natCast, fill_set _ _ _ hi2, wrap64_succ i (by omega)]
    exact ih (i + 1) (by omega)
theorem toTrie_ev (l : List S82) (hl : l.length ≤ 1048576) : Ev (fun k => laws_toTrie.f k l) (toN l) := by
  unfold laws_toTrie.f laws_toNodeS.f
  refine Ev.bind (f := fun k t => some t) (Ev.ifT (by omega) (Ev.ifT (by omega) ?_)) (Ev.now _)
  have := toNodeS_loop l hl l.length 0 (by omega)
  rw [List.take_zero, List.nil_append, toN_length, Nat.sub_zero] at this
  exact this
theorem eqNode_self (a b : Int) (c : Bool) : laws_eqNode.f a b c a b c = some true := by
  unfold laws_eqNode.f
  rw [if_pos rfl, if_pos rfl, if_neg (by simp)]
theorem eqNodeS_loop (N : List Nd) (hN : N.length ≤ 4611686018427387903) : ∀ (d i : Nat), i + d = N.length → Ev (fun k => laws_eqNodeS.l0 k N N (i : Int)) true := by
  intro d
  induction d with
  | zero => intro i h; exact Ev.step (fun k => laws_eqNodeS.l0.eq_2 ..) (Ev.ifF (by omega) (Ev.now _))
  | succ d ih =>
    intro i h
    refine Ev.step (fun k => laws_eqNodeS.l0.eq_2 ..) (Ev.ifT (by omega) (Ev.ifT (by omega) (Ev.ifT (by omega) ?_)))
    rw [eqNode_self]
    refine Ev.some_bind (Ev.ifT rfl ?_)
    rw [wrap64_succ i (by omega)]
    exact ih (i + 1) (by omega)
theorem eqTrie_ev (N : List Nd) (hN : N.length ≤ 4611686018427387903) : Ev (fun k => laws_eqTrie.f k N N) true := by
  unfold laws_eqTrie.f laws_eqNodeS.f
  exact Ev.bind (f := fun k t => if t = true then some true else some false) (Ev.ifT rfl (eqNodeS_loop N hN N.length 0 (by omega))) (Ev.ifT rfl (Ev.now _))
/-- Both sides ask alike whether a trie is valid. -/
theorem trie_both (N : List Nd) : (IsTr N ∧ Ev (fun k => spec_l2Trie.f k N) true ∧ Ev (fun k => impl_isTrie.f k N) true) ∨ (¬ IsTr N ∧ Ev (fun k => spec_l2Trie.f k N) false ∧ Ev (fun k => impl_isTrie.f k N) false) := by
  obtain ⟨b1, c1, e1⟩ := l2Trie_ev N
  obtain ⟨b2, c2, e2⟩ := isTrie_ev N
  by_cases h : IsTr N
  · obtain rfl := c1.2 h
    obtain rfl := c2.2 h
    exact .inl ⟨h, e1, e2⟩
  · cases b1 with
    | true => exact absurd (c1.1 rfl) h
    | false =>
      cases b2 with
      | true => exact absurd (c2.1 rfl) h
      | false => exact .inr ⟨h, e1, e2⟩

end Go.Proofs.Ytgagmodkjmegeaa.L

namespace Go.Proofs.Ytgagmodkjmegeaa.L
open Go.RowKit Go.Proofs.Ytgagmodkjmegeaa.P Go.Proofs.Ytgagmodkjmegeaa.M Go.Proofs.YtgagmodkjmegeaaW.PrintWords Go.Proofs.YtgagmodkjmegeaaW.PrintLast Go.Proofs.YtgagmodkjmegeaaW.PrintMore
set_option linter.unusedVariables false
theorem drawn_both (N : List Nd) : (∃ ws, OkW ws ∧ 0 < ws.length ∧ N = trN (preL ws) ws ∧ Ev (fun k => spec_l9Drawn.f k N) true ∧ Ev (fun k => impl_isDrawn.f k N) true) ∨ (Ev (fun k => spec_l9Drawn.f k N) false ∧ Ev (fun k => impl_isDrawn.f k N) false) := by
  unfold spec_l9Drawn.f impl_isDrawn.f
  rcases trie_both N with ⟨⟨ws, h, rfl⟩, e1, e2⟩ | ⟨h, e1, e2⟩
  · rcases Nat.eq_zero_or_pos ws.length with h0 | h0
    · refine .inr ⟨Ev.bind e1 (Ev.ifT rfl (Ev.bind (l2Words_ev h) ?_)), Ev.bind e2 (Ev.ifT rfl (Ev.bind (words_ev h) ?_))⟩
      · rw [List.length_map, decide_eq_false (by omega)]; exact Ev.now _
      · rw [List.length_map, decide_eq_false (by omega)]; exact Ev.now _
    · refine .inl ⟨ws, h, h0, rfl, Ev.bind e1 (Ev.ifT rfl (Ev.bind (l2Words_ev h) ?_)), Ev.bind e2 (Ev.ifT rfl (Ev.bind (words_ev h) ?_))⟩
      · rw [List.length_map, decide_eq_true (by omega)]; exact Ev.now _
      · rw [List.length_map, decide_eq_true (by omega)]; exact Ev.now _
  · exact .inr ⟨Ev.bind e1 (Ev.ifF Bool.false_ne_true (Ev.now _)), Ev.bind e2 (Ev.ifF Bool.false_ne_true (Ev.now _))⟩

end Go.Proofs.Ytgagmodkjmegeaa.L

namespace Go.Proofs.Ytgagmodkjmegeaa.L
open Go.RowKit Go.Proofs.Ytgagmodkjmegeaa.P Go.Proofs.Ytgagmodkjmegeaa.M Go.Proofs.YtgagmodkjmegeaaW.PrintWords Go.Proofs.YtgagmodkjmegeaaW.PrintLast Go.Proofs.YtgagmodkjmegeaaW.PrintMore
set_option linter.unusedVariables false
/-- A fraction in lowest terms. -/
def fr (a b : Nat) : Int × Int := (((a / Nat.gcd b a : Nat) : Int), ((b / Nat.gcd b a : Nat) : Int))
theorem wrapN {n : Nat} (h : n ≤ 9223372036854775807) : wrap64 (n : Int) = (n : Int) := wrap64_id (by omega) (by omega)
theorem divisor_ev : ∀ (b a : Nat), Ev (fun k => impl_divisor.l0 k (a : Int) (b : Int)) ((Nat.gcd b a : Nat) : Int) := by
  intro b
  induction b using Nat.strongRecOn with
  | _ b ih =>
    intro a
    by_cases hb : b = 0
    · subst hb
      rw [Nat.gcd_zero_left]
      exact Ev.step (fun k => impl_divisor.l0.eq_2 ..) (Ev.ifT rfl (Ev.now _))
    · refine Ev.step (fun k => impl_divisor.l0.eq_2 ..) (Ev.ifF (by omega) ?_)
      rw [← Int.ofNat_tmod, Nat.gcd_rec]
      exact ih (a % b) (Nat.mod_lt _ (by omega)) b
theorem frac_ev (a b : Nat) (ha : a ≤ 9223372036854775807) (hb : 0 < b) (hb2 : b ≤ 9223372036854775807) : Ev (fun k => impl_fraction.f k (a : Int) (b : Int)) (fr a b) := by
  have hg : 0 < Nat.gcd b a := Nat.gcd_pos_of_pos_left a hb
  have h1 := Nat.div_le_self a (Nat.gcd b a)
  have h2 := Nat.div_le_self b (Nat.gcd b a)
  unfold impl_fraction.f impl_divisor.f
  refine Ev.bind (f := fun k t => if t = 0 then none else some (wrap64 (Int.tdiv (a : Int) t), wrap64 (Int.tdiv (b : Int) t))) (divisor_ev b a) (Ev.ifF (by omega) ?_)
  rw [← Int.ofNat_tdiv, ← Int.ofNat_tdiv, wrapN (Nat.le_trans h1 ha), wrapN (Nat.le_trans h2 hb2)]
  exact Ev.now _
theorem cut_loop (a b : Nat) (ha : a ≤ 9223372036854775807) (hb : 0 < b) (hb2 : b ≤ 9223372036854775807) : ∀ (y x : Nat), Nat.gcd y x = Nat.gcd b a → Ev (fun k => spec_l9Cut.l0 k (a : Int) (b : Int) (x : Int) (y : Int)) (fr a b) := by
  have hg : 0 < Nat.gcd b a := Nat.gcd_pos_of_pos_left a hb
  have h1 := Nat.div_le_self a (Nat.gcd b a)
  have h2 := Nat.div_le_self b (Nat.gcd b a)
  intro y
  induction y using Nat.strongRecOn with
  | _ y ih =>
    intro x hxy
    by_cases hy : y = 0
    · subst hy
      rw [Nat.gcd_zero_left] at hxy
      subst hxy
      refine Ev.step (fun k => spec_l9Cut.l0.eq_2 ..) (Ev.ifF (by omega) ?_)
      have hm : spec_l1Most.f (((Nat.gcd b a : Nat) : Int)) 1 = some ((Nat.gcd b a : Nat) : Int) := by
        unfold spec_l1Most.f
        by_cases h : ((Nat.gcd b a : Nat) : Int) > 1
        · rw [if_pos h]
        · rw [if_neg h]; congr 1; omega
      rw [hm]
      refine Ev.some_bind (Ev.ifF (by omega) (Ev.some_bind (Ev.ifF (by omega) ?_)))
      rw [← Int.ofNat_tdiv, ← Int.ofNat_tdiv, wrapN (Nat.le_trans h1 ha), wrapN (Nat.le_trans h2 hb2)]
      exact Ev.now _
    · refine Ev.step (fun k => spec_l9Cut.l0.eq_2 ..) (Ev.ifT (by omega) (Ev.ifF (by omega) ?_))
      rw [← Int.ofNat_tmod]
      exact ih (x % y) (Nat.mod_lt _ (by omega)) y (by rw [← Nat.gcd_rec]; exact hxy)
theorem cut_ev (a b : Nat) (ha : a ≤ 9223372036854775807) (hb : 0 < b) (hb2 : b ≤ 9223372036854775807) : Ev (fun k => spec_l9Cut.f k (a : Int) (b : Int)) (fr a b) := cut_loop a b ha hb hb2 b a rfl

end Go.Proofs.Ytgagmodkjmegeaa.L

namespace Go.Proofs.Ytgagmodkjmegeaa.M
def sumL (f : Txt → Nat) : List Txt → Nat
  | [] => 0
  | x :: r => f x + sumL f r
theorem sumL_congr {f g : Txt → Nat} : ∀ {l : List Txt}, (∀ x ∈ l, f x = g x) → sumL f l = sumL g l
  | [], _ => rfl
  | x :: r, h => by rw [sumL, sumL, h x (by simp), sumL_congr fun y hy => h y (List.mem_cons_of_mem _ hy)]
theorem sumL_zero {f : Txt → Nat} : ∀ {l : List Txt}, (∀ x ∈ l, f x = 0) → sumL f l = 0
  | [], _ => rfl
  | x :: r, h => by rw [sumL, h x (by simp), sumL_zero fun y hy => h y (List.mem_cons_of_mem _ hy)]
theorem sumL_add (f g : Txt → Nat) : ∀ l : List Txt, sumL (fun x => f x + g x) l = sumL f l + sumL g l
  | [] => rfl
  | x :: r => by rw [sumL, sumL, sumL, sumL_add f g r]; omega
theorem sumL_le (f : Txt → Nat) (b : Nat) : ∀ l : List Txt, (∀ x ∈ l, f x ≤ b) → sumL f l ≤ b * l.length
  | [], _ => by simp [sumL]
  | x :: r, h => by
    have h1 := h x (by simp)
    have h2 := sumL_le f b r fun y hy => h y (List.mem_cons_of_mem _ hy)
    rw [sumL, List.length_cons, Nat.mul_succ]; omega
theorem sumL_one {Q : List Txt} (hQ : Asc Q) (a : Txt) (F : Txt → Nat) : a ∈ Q → sumL (fun p => if p = a then F p else 0) Q = F a := by
  induction Q with
  | nil => intro h; simp at h
  | cons x r ih =>
    intro h
    unfold Asc at hQ
    rw [List.pairwise_cons] at hQ
    by_cases e : x = a
    · subst e
      rw [sumL, if_pos rfl, sumL_zero fun y hy => if_neg fun e => ?_]
      · omega
      · subst e; exact txt_irrefl _ (hQ.1 _ hy)
    · rw [sumL, if_neg e, ih hQ.2 ((List.mem_cons.1 h).resolve_left fun q => e q.symm)]
      omega

end Go.Proofs.Ytgagmodkjmegeaa.M

namespace Go.Proofs.Ytgagmodkjmegeaa.L
open Go.RowKit Go.Proofs.Ytgagmodkjmegeaa.P Go.Proofs.Ytgagmodkjmegeaa.M Go.Proofs.YtgagmodkjmegeaaW.PrintWords Go.Proofs.YtgagmodkjmegeaaW.PrintLast Go.Proofs.YtgagmodkjmegeaaW.PrintMore
set_option linter.unusedVariables false
theorem eqA2_self (a b : Int) : laws_eqIntA2.f a b a b = some true := by unfold laws_eqIntA2.f; simp

end Go.Proofs.Ytgagmodkjmegeaa.L

namespace Go.Proofs.Ytgagmodkjmegeaa.Pure
open Go.RowKit Go.Proofs.Ytgagmodkjmegeaa.P Go.Proofs.Ytgagmodkjmegeaa.M Go.Proofs.YtgagmodkjmegeaaW.PrintWords Go.Proofs.YtgagmodkjmegeaaW.PrintLast Go.Proofs.YtgagmodkjmegeaaW.PrintMore
set_option linter.unusedVariables false
open Go.Proofs.Ytgagmodkjmegeaa.L
namespace MeanLetters
theorem sum_ev : ∀ (ws : List Txt) (s : Nat), s + sumL List.length ws ≤ 1000000 → sumf (fun x => some (impl_meanOf_len.q x)) (ws.map B) (s : Int) = some ((s + sumL List.length ws : Nat) : Int)
  | [], s, _ => rfl
  | w :: r, s, h => by
    rw [sumL] at h
    have ih := sum_ev r (s + w.length) (by omega)
    rw [List.map_cons, sumf, Option.bind_some]
    unfold impl_meanOf_len.q at ih ⊢
    rw [size_B, ← Int.natCast_add, wrapN (by omega), ih, sumL]
    congr 2
    omega
theorem bound {ws : List Txt} (h : OkW ws) : sumL List.length ws ≤ 480 := by
  have h1 := sumL_le List.length 12 ws h.le
  have := h.len
  omega
theorem spec_loop {ws : List Txt} (h : OkW ws) (h0 : 0 < ws.length) (S : Nat) (hS : S ≤ 480) : ∀ (d i s : Nat), i + d = ws.length → s + sumL List.length (ws.drop i) = S →
    Ev (fun k => spec_MeanLetters.l0 k (s : Int) (ws.map B) (i : Int)) ((fr S ws.length).1, (fr S ws.length).2, true) := by
  have h40 := h.len
  intro d
  induction d with
  | zero =>
    intro i s h1 h2
    rw [List.drop_of_length_le (by omega), sumL] at h2
    obtain rfl : s = S := by omega
    refine Ev.step (fun k => spec_MeanLetters.l0.eq_2 ..) (Ev.ifF (by rw [List.length_map]; omega) ?_)
    rw [List.length_map]
    exact Ev.bind (a := fr s ws.length) (cut_ev _ _ (by omega) h0 (by omega)) (Ev.now _)
  | succ d ih =>
    intro i s h1 h2
    have hi : i < ws.length := by omega
    rw [drop_cons_getD [] hi, sumL] at h2
    refine Ev.step (fun k => spec_MeanLetters.l0.eq_2 ..) (Ev.ifT (by rw [List.length_map]; omega) (Ev.ifT (by omega) ?_))
    rw [rdB ws i hi, size_B, wrap64_succ i (by omega), ← Int.natCast_add, wrapN (by omega)]
    exact ih (i + 1) _ (by omega) (by omega)
theorem both (N : List Nd) : ∃ r : Int × Int × Bool, Ev (fun k => spec_MeanLetters.f k N) r ∧ Ev (fun k => impl_MeanLetters.f k N) r := by
  unfold spec_MeanLetters.f impl_MeanLetters.f
  rcases drawn_both N with ⟨ws, h, h0, rfl, e1, e2⟩ | ⟨e1, e2⟩
  · have hb := bound h
    have h40 := h.len
    refine ⟨((fr (sumL List.length ws) ws.length).1, (fr (sumL List.length ws) ws.length).2, true), Ev.bind e1 (Ev.ifT rfl (Ev.bind (l2Words_ev h) (spec_loop h h0 _ hb ws.length 0 0 (by omega) (by rw [List.drop_zero]; omega)))), Ev.bind e2 (Ev.ifT rfl (Ev.bind (a := fr (sumL List.length ws) ws.length) ?_ (Ev.now _)))⟩
    unfold impl_meanOf_len.f
    refine Ev.bind (words_ev h) ?_
    have := sum_ev ws 0 (by omega)
    rw [Nat.zero_add] at this
    show Ev (fun k => (sumf (fun x => some (impl_meanOf_len.q x)) (ws.map B) ((0 : Nat) : Int)).bind _) _
    rw [this, List.length_map]
    exact Ev.some_bind (frac_ev _ _ (by omega) h0 (by omega))
  · exact ⟨(0, 0, false), Ev.bind e1 (Ev.ifF Bool.false_ne_true (Ev.now _)), Ev.bind e2 (Ev.ifF Bool.false_ne_true (Ev.now _))⟩
end MeanLetters
theorem FnExactMeanLetters : laws_FnExactMeanLetters.Pure := by
  intro l hl
  by_cases hs : l.length ≤ 1048576
  · obtain ⟨r, h1, h2⟩ := MeanLetters.both (toN l)
    refine Ev.rounds ?_
    unfold laws_FnExactMeanLetters.f
    rw [szTrie_eq l hl, if_pos hs]
    refine Ev.some_bind (Ev.ifF (by omega) (Ev.bind (toTrie_ev l hs) (Ev.bind h1 (Ev.bind (toTrie_ev l hs) (Ev.bind h2 ?_)))))
    rw [eqA2_self]
    refine Ev.some_bind (Ev.ifT rfl (Ev.step (fun k => laws_FnExactMeanLetters.j0.eq_2 ..) (Ev.ifF (by simp) (Ev.bind (toTrie_ev l hs) (Ev.bind (eqTrie_ev _ (by rw [toN_length]; omega)) (Ev.ifT rfl (Ev.now _)))))))
  · exact ⟨0, by unfold laws_FnExactMeanLetters.f; rw [szTrie_eq l hl, if_neg hs]; rfl⟩

end Go.Proofs.Ytgagmodkjmegeaa.Pure

namespace Go.Proofs.Ytgagmodkjmegeaa.fnExactMeanLetters
open Go.ChangeShapes Go.WideShapes Go.ChangeAt Go.RowKit Go.Proofs.Ytgagmodkjmegeaa.P
open Go.ChangeMaps (open_string shut_string)
set_option linter.unusedVariables false
theorem own : ownKnob Try.prog.godebug = none := by kernel_rfl
theorem laidOut : laidOutB Try.prog = true := by kernel_rfl
set_option maxRecDepth 100000 in
theorem lifted (os : Os) (started : os.Started) (H : Type) (enc : TypeId × Value → H) :
    ReturnsInHanded {} Try.checked os 3 .any (Rows.fnExactMeanLettersSpec.pre6 enc Try.prog Try.f3 Rows.fnExactMeanLettersRow.domain false) (Rows.fnExactMeanLettersSpec.post enc Try.prog Try.f3 false true false false) := by
  refine returnsInHanded_of_change_sized (C := Try.checked) own started (by kernel_rfl) Try.func3
    (ChangeSpec.witness6 (enc := enc) (C := Try.checked) false ⟨#[], #[.agg #[.slice none 0 0]], []⟩ 8 (by kernel_rfl) (by kernel_rfl) (by kernel_rfl) (by kernel_rfl)) ?_
  intro W base args ds gs before hval0 hW hcnd hsz0 _
  have hsz : (DataW.weightsEach Try.prog (Try.f3.params.toList ++ Rows.fnExactMeanLettersSpec.plain.varTypes Try.prog) (ds ++ gs)).all (· ≤ reachBytes) = true := hsz0
  have hval : ∀ (j : Nat) t v, Try.f3.params[j]? = some t → args[j]? = some v → Value.okWide Try.prog W .any base t v := hval0
  have hW' := hW
  obtain ⟨p, q, hA0, hV, rfl, hfz, hnd⟩ := hW
  have hA : DataW.TrodAll enc Try.prog W 0 (fun _ => true) true Try.f3.params.toList args.toList ds p := hA0
  rw [Try.params3] at hA hval hsz
  obtain ⟨v0, vs0, d0, ds0, p0, q0, hargs, rfl, rfl, h0, r0⟩ := trodAll_cons hA
  obtain ⟨rfl, rfl, rfl⟩ := trodAll_nil r0
  obtain rfl : args = #[v0] := by cases args; simp_all
  obtain ⟨rfl, rfl⟩ := trodVars_none hV
  have k0 := h0
  have lt0 : ∀ x ∈ p0, x.block < W.heap.size := by obtain ⟨m, hm⟩ := k0; exact DataW.trod_lt m _ _ _ hm
  obtain ⟨A0, c0, l0, ev0, hc0, hr0⟩ := OT.trie (hval 0 24 v0 rfl rfl) h0
  subst ev0
  clear hA0 hval0 hsz0 hsz
  refine (laws_FnExactMeanLetters.walk Pure.FnExactMeanLetters W A0 c0 l0 hr0 hc0).mono fun e W' ⟨he, bel⟩ => ?_
  subst he
  exact ⟨_, rfl, _, _, _, [], _, [], hW', trodAll_mk1 (shut_bool Try.underlying4 _), (trodAll_cons_mk (Below.trod laidOut (by kernel_rfl) (of_decide_eq_true (by kernel_rfl)) k0 bel lt0) trodAll_mk0), rfl, bel.frame _, fun h => by cases h⟩
theorem over : Rows.fnExactMeanLettersRow.holds Try.pinned (OpenSpec.ofChange Rows.fnExactMeanLettersSpec) :=
  OpenClaim.holds_of_wide 3 Try.f3 rfl rfl rfl rfl rfl rfl rfl ⟨rfl, rfl, rfl, rfl, rfl⟩ rfl rfl rfl rfl rfl (by kernel_rfl) Try.func3 (by kernel_rfl)
    (of_decide_eq_true (by kernel_rfl)) (by unfold Func.isWrapper; first | (rw [if_pos (by decide +kernel)]; kernel_rfl) | (rw [if_neg (by decide +kernel)]; exact ⟨rfl, rfl⟩))
    (fun os started H enc _ => lifted os started H enc)
theorem proved : Rows.FnExactMeanLettersSaid := over
end Go.Proofs.Ytgagmodkjmegeaa.fnExactMeanLetters
namespace Go.Proofs.Ytgagmodkjmegeaa
/-- The row, under a short name, for the claim. -/
theorem fnExactMeanLetters_holds : Rows.FnExactMeanLettersSaid := fnExactMeanLetters.proved
end Go.Proofs.Ytgagmodkjmegeaa
