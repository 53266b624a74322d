/-
  Part 4 of what several laws reach in common: functions of the program, each with its contract, and plain lemmas.
  Conditions: those of the given statement, no others.
-/
import Derived.Test.YtgagmodkjmegeaaKbW0
import Derived.Test.YtgagmodkjmegeaaKb0
import Derived.Test.YtgagmodkjmegeaaKb2
import Derived.Test.YtgagmodkjmegeaaKb1
set_option linter.unusedVariables false
set_option linter.unusedSimpArgs false
namespace Go.Proofs.Ytgagmodkjmegeaa.L
open Go.RowKit Go.Proofs.Ytgagmodkjmegeaa.P Go.Proofs.Ytgagmodkjmegeaa.M Go.Proofs.YtgagmodkjmegeaaW.PrintWords Go.Proofs.YtgagmodkjmegeaaW.PrintLast Go.Proofs.YtgagmodkjmegeaaW.PrintMore
set_option linter.unusedVariables false
theorem in_eq (a b c : Int) : impl_in.f a b c = some (decide (b ≤ a ∧ a ≤ c)) := by
 unfold impl_in.f
 by_cases h : b ≤ a
 ·
  rw [if_pos (by omega)]; simp [h]
 ·
  rw [if_neg (by omega)]; simp [h]
abbrev Nd := S80
theorem bytesLess_eq : ∀ (x y : Txt), Op.bytesLess x y = decide (x < y)
 | [], [] => by rw [decide_eq_false (txt_irrefl [])]; rfl
 | _ :: _, [] => by rw [decide_eq_false (List.not_lt_nil _)]; rfl
 | [], b :: y => by rw [decide_eq_true (List.nil_lt_cons b y)]; rfl
 | a :: x, b :: y => by
  rw [Op.bytesLess, bytesLess_eq x y, Bool.eq_iff_iff, decide_eq_true_eq, List.cons_lt_cons_iff]
  simp
theorem less_eq (x y : Txt) : cmp_Less_string.f (B x) (B y) = some (decide (x < y)) := by
 unfold cmp_Less_string.f cmp_isNaN_string.f
 rw [toList_B, toList_B, ← bytesLess_eq]
 simp
def Srt (ws : List Txt) : Prop := ∀ j, j + 1 < ws.length → ¬ ws.getD (j + 1) [] < ws.getD j []
theorem Srt.le {ws : List Txt} (h : Srt ws) (i : Nat) : ∀ d, i + d < ws.length → ¬ ws.getD (i + d) [] < ws.getD i []
 | 0, _ => txt_irrefl _
 | d + 1, hd => fun hlt => by
  have h1 := h.le i d (by omega)
  have h2 := h (i + d) (by omega)
  exact h1 (List.lt_of_le_of_lt (List.not_lt.1 h2) hlt)
theorem srt_asc {ws : List Txt} (h : Asc ws) : Srt ws := fun j hj => txt_asymm (asc_get h hj (Nat.lt_succ_self j))
theorem half_eq (i j : Nat) (h : i + j ≤ 4611686018427387903) : wrap64 ((IntKind.u64.wrap (wrap64 ((i : Int) + (j : Int)))) / 2) = (((i + j) / 2 : Nat) : Int) := by
 have e1 : wrap64 ((i : Int) + (j : Int)) = ((i + j : Nat) : Int) := by rw [wrap64_id (by omega) (by omega)]; omega
 have e2 : IntKind.u64.wrap (((i + j : Nat) : Int)) = ((i + j : Nat) : Int) := by
  simp [IntKind.wrap, IntKind.bits, IntKind.signed]; omega
 rw [e1, e2, wrap64_id (by omega) (by omega)]
 omega
theorem search_loop (ws : List Txt) (p : Txt) (hl : ws.length ≤ 1000000000) (hs : Srt ws) : ∀ (d i j : Nat), i + d = j → j ≤ ws.length → (∀ m, m < i → ws.getD m [] < p) → (∀ m, j ≤ m → m < ws.length → ¬ ws.getD m [] < p) →
  ∃ q : Nat, q ≤ ws.length ∧ (∀ m, m < q → ws.getD m [] < p) ∧ (∀ m, q ≤ m → m < ws.length → ¬ ws.getD m [] < p) ∧ Ev (fun k => slices_BinarySearch_string_string.l0 k (ws.map B) (B p) (ws.length : Int) (i : Int) (j : Int)) ((q : Int), decide (p ∈ ws)) := by
 intro d
 induction d using Nat.strongRecOn with
 | _ d ih =>
  intro i j h1 h2 h3 h4
  by_cases hij : i < j
  ·
   have hh : (i + j) / 2 < ws.length := by omega
   by_cases hlt : ws.getD ((i + j) / 2) [] < p
   ·
    obtain ⟨q, q1, q2, q3, q4⟩ := ih (j - ((i + j) / 2 + 1)) (by omega) ((i + j) / 2 + 1) j (by omega) h2 (fun m hm => by
     by_cases e : m = (i + j) / 2
     ·
      rw [e]; exact hlt
     ·
      by_cases hmi : m < i
      ·
       exact h3 m hmi
      ·
       have hle := hs.le m ((i + j) / 2 - m) (by omega)
       rw [show m + ((i + j) / 2 - m) = (i + j) / 2 from by omega] at hle
       exact List.lt_of_le_of_lt (List.not_lt.1 hle) hlt) h4
    refine ⟨q, q1, q2, q3, Ev.step (fun k => slices_BinarySearch_string_string.l0.eq_2 ..) (Ev.ifT (by omega) ?_)⟩
    rw [half_eq i j (by omega)]
    refine Ev.ifT (by omega) (Ev.ifT (by rw [List.length_map]; omega) ?_)
    rw [rdB ws _ hh, less_eq, decide_eq_true hlt]
    refine Ev.some_bind (Ev.ifT rfl ?_)
    rw [wrap64_succ _ (by omega)]
    exact q4
   ·
    obtain ⟨q, q1, q2, q3, q4⟩ := ih ((i + j) / 2 - i) (by omega) i ((i + j) / 2) (by omega) (by omega) h3 (fun m hm hml => by
     have hle := hs.le ((i + j) / 2) (m - (i + j) / 2) (by omega)
     rw [show (i + j) / 2 + (m - (i + j) / 2) = m from by omega] at hle
     exact fun hp => hlt (List.lt_of_le_of_lt (List.not_lt.1 hle) hp))
    refine ⟨q, q1, q2, q3, Ev.step (fun k => slices_BinarySearch_string_string.l0.eq_2 ..) (Ev.ifT (by omega) ?_)⟩
    rw [half_eq i j (by omega)]
    refine Ev.ifT (by omega) (Ev.ifT (by rw [List.length_map]; omega) ?_)
    rw [rdB ws _ hh, less_eq, decide_eq_false hlt]
    exact Ev.some_bind (Ev.ifF Bool.false_ne_true q4)
  ·
   obtain rfl : i = j := by omega
   refine ⟨i, h2, h3, h4, Ev.step (fun k => slices_BinarySearch_string_string.l0.eq_2 ..) (Ev.ifF (by omega) ?_)⟩
   by_cases hn : i < ws.length
   ·
    refine Ev.ifT (by omega) (Ev.ifT (by omega) (Ev.ifT (by rw [List.length_map]; omega) ?_))
    rw [rdB ws i hn, toList_B, toList_B]
    by_cases e : ws.getD i [] = p
    ·
     rw [decide_eq_true (show p ∈ ws from e ▸ getD_mem hn)]
     exact Ev.ifT e (Ev.now _)
    ·
     have hm : ¬ p ∈ ws := fun hp => by
      obtain ⟨z1, z2⟩ := placeL_mem hp
      have hz : i ≤ placeL ws p := by
       by_cases hzi : placeL ws p < i
       ·
        have := h3 _ hzi; rw [z2] at this; exact absurd this (txt_irrefl _)
       ·
        omega
      have hle := hs.le i (placeL ws p - i) (by omega)
      rw [show i + (placeL ws p - i) = placeL ws p from by omega, z2] at hle
      exact e (txt_tri (h4 i (Nat.le_refl _) hn) hle)
     rw [decide_eq_false hm]
     refine Ev.ifF e ?_
     unfold slices_isNaN_string.f
     exact Ev.some_bind (Ev.ifF (by simp) (Ev.now _))
   ·
    have hm : ¬ p ∈ ws := fun hp => by
     obtain ⟨z1, z2⟩ := placeL_mem hp
     have := h3 _ (show placeL ws p < i by omega)
     rw [z2] at this
     exact txt_irrefl _ this
    rw [decide_eq_false hm]
    exact Ev.ifF (by omega) (Ev.now _)
theorem search_ev (ws : List Txt) (p : Txt) (hl : ws.length ≤ 1000000000) (hs : Srt ws) : ∃ q : Nat, q ≤ ws.length ∧ (∀ m, m < q → ws.getD m [] < p) ∧ (∀ m, q ≤ m → m < ws.length → ¬ ws.getD m [] < p) ∧ Ev (fun k => slices_BinarySearch_string_string.f k (ws.map B) (B p)) ((q : Int), decide (p ∈ ws)) := by
 unfold slices_BinarySearch_string_string.f
 have := search_loop ws p hl hs ws.length 0 ws.length (by omega) (Nat.le_refl _) (fun m hm => absurd hm (Nat.not_lt_zero _)) (fun m h1 h2 => absurd h2 (by omega))
 rw [List.length_map]
 exact this
def prefGo : List Nd → List Txt → Option (List Txt)
 | [], acc => some acc
 | n :: r, acc => if 0 ≤ n.f1 ∧ n.f1 < (acc.length : Int) ∧ 0 ≤ n.f0 ∧ n.f0 ≤ 25 then prefGo r (acc ++ [acc.getD n.f1.toNat [] ++ [UInt8.ofNat (97 + n.f0.toNat)]]) else none
def prefR : Option (List Txt) → List ByteArray × Bool
 | some ps => (ps.map B, true)
 | none => ([], false)
theorem letter_eq (n : Int) (h0 : 0 ≤ n) (h1 : n ≤ 25) : impl_letter.f n = some (B [UInt8.ofNat (97 + n.toNat)]) := by
 unfold impl_letter.f
 rw [strOfNums_B]
 congr 3
 rw [wrap64_id (by omega) (by omega)]
 congr 1
 omega
theorem getD_le {acc : List Txt} {b : Nat} (h : ∀ p ∈ acc, p.length ≤ b) (n : Nat) : (acc.getD n []).length ≤ b := by
 by_cases hn : n < acc.length
 ·
  exact h _ (getD_mem hn)
 ·
  rw [List.getD_eq_getElem?_getD, List.getElem?_eq_none (by omega)]; simp
theorem pref_loop (N' : List Nd) (hN : N'.length ≤ 1000000) : ∀ (d i : Nat) (acc : List Txt), i + d = N'.length → acc.length = i + 1 → (∀ p ∈ acc, p.length ≤ i) →
  Ev (fun k => impl_Trie_prefixes.l0 k (acc.map B) N' (N'.length : Int) (i : Int)) (prefR (prefGo (N'.drop i) acc)) := by
 intro d
 induction d with
 | zero =>
  intro i acc h1 h2 h3
  rw [List.drop_of_length_le (by omega)]
  exact Ev.step (fun k => impl_Trie_prefixes.l0.eq_2 ..) (Ev.ifF (by omega) (Ev.now _))
 | succ d ih =>
  intro i acc h1 h2 h3
  have hi : i < N'.length := by omega
  rw [List.drop_eq_getElem_cons hi]
  refine Ev.step (fun k => impl_Trie_prefixes.l0.eq_2 ..) (Ev.ifT (by omega) (Ev.ifT (by omega) (Ev.ifT (by omega) ?_)))
  rw [rd_get N' i hi, in_eq]
  unfold prefGo
  by_cases ha : 0 ≤ N'[i].f1 ∧ N'[i].f1 ≤ (i : Int)
  ·
   rw [decide_eq_true ha]
   refine Ev.some_bind (Ev.ifT rfl ?_)
   rw [in_eq]
   by_cases hb : 0 ≤ N'[i].f0 ∧ N'[i].f0 ≤ 25
   ·
    rw [decide_eq_true hb, if_pos ⟨ha.1, by omega, hb.1, hb.2⟩]
    refine Ev.some_bind (Ev.ifT rfl (Ev.ifT ha.1 (Ev.ifT (by rw [List.length_map]; omega) ?_)))
    rw [letter_eq _ hb.1 hb.2]
    refine Ev.some_bind ?_
    obtain ⟨m, hm⟩ : ∃ m : Nat, N'[i].f1 = (m : Int) := ⟨N'[i].f1.toNat, by omega⟩
    have hml : m < acc.length := by omega
    have hmb := getD_le h3 m
    rw [hm, rdB acc m hml, Int.toNat_natCast]
    refine Ev.ifT (by rw [size_B, size_B, List.length_singleton]; omega) (Ev.ifT (by rw [List.length_map]; omega) ?_)
    rw [append_B, wrap64_succ i (by omega)]
    have := ih (i + 1) (acc ++ [acc.getD m [] ++ [UInt8.ofNat (97 + N'[i].f0.toNat)]]) (by omega) (by simp; omega) (fun p hp => by
     rcases List.mem_append.1 hp with hp | hp
     ·
      have := h3 p hp; omega
     ·
      rw [List.mem_singleton.1 hp]; simp; simpa using hmb)
    rw [List.map_append, List.map_singleton] at this
    exact this
   ·
    rw [decide_eq_false hb, if_neg (fun h => hb h.2.2)]
    exact Ev.some_bind (Ev.ifF Bool.false_ne_true (Ev.now _))
  ·
   rw [decide_eq_false ha, if_neg (fun h => ha ⟨h.1, by omega⟩)]
   exact Ev.some_bind (Ev.ifF Bool.false_ne_true (Ev.now _))
def prefN (N : List Nd) : Option (List Txt) := if 1 ≤ N.length ∧ N.length ≤ 481 then prefGo (N.drop 1) [[]] else none
theorem prefixes_ev (N : List Nd) : Ev (fun k => impl_Trie_prefixes.f k N) (prefR (prefN N)) := by
 unfold impl_Trie_prefixes.f prefN
 simp only [in_eq]
 by_cases h : 1 ≤ N.length ∧ N.length ≤ 481
 ·
  rw [if_pos h, decide_eq_true (show (1 : Int) ≤ (N.length : Int) ∧ (N.length : Int) ≤ 481 by omega)]
  refine Ev.some_bind (Ev.ifT rfl (Ev.ifT (by omega) (Ev.some_bind ?_)))
  exact pref_loop (N.drop 1) (by rw [List.length_drop]; omega) (N.drop 1).length 0 [[]] (by omega) rfl (by simp)
 ·
  rw [if_neg h, decide_eq_false (show ¬ ((1 : Int) ≤ (N.length : Int) ∧ (N.length : Int) ≤ 481) by omega)]
  exact Ev.some_bind (Ev.ifF Bool.false_ne_true (Ev.now _))
theorem letterB_of (m : Nat) (h : m ≤ 25) : letterB (UInt8.ofNat (97 + m)) = true := by
 have : (UInt8.ofNat (97 + m)).toNat = 97 + m := by simp; omega
 simp only [letterB, this, decide_eq_true_eq]; omega
theorem prefGo_ok : ∀ (r : List Nd) (acc ps : List Txt), prefGo r acc = some ps → (∀ p ∈ acc, ∀ c ∈ p, letterB c = true) → (∀ p ∈ ps, ∀ c ∈ p, letterB c = true) ∧ ps.length = acc.length + r.length
 | [], acc, ps, h, ha => by
  obtain rfl := Option.some.inj h
  exact ⟨ha, rfl⟩
 | n :: r, acc, ps, h, ha => by
  unfold prefGo at h
  by_cases hc : 0 ≤ n.f1 ∧ n.f1 < (acc.length : Int) ∧ 0 ≤ n.f0 ∧ n.f0 ≤ 25
  ·
   rw [if_pos hc] at h
   obtain ⟨h1, h2⟩ := prefGo_ok r _ ps h (fun p hp c hcp => by
    rcases List.mem_append.1 hp with hp | hp
    ·
     exact ha p hp c hcp
    ·
     rw [List.mem_singleton.1 hp] at hcp
     rcases List.mem_append.1 hcp with hcp | hcp
     ·
      exact ha _ (getD_mem (by omega)) c hcp
     ·
      rw [List.mem_singleton.1 hcp]; exact letterB_of _ (by omega))
   exact ⟨h1, by rw [h2]; simp; omega⟩
  ·
   rw [if_neg hc] at h; cases h
theorem letter_last {p : Txt} (hw : wordL p = true) (h : p ≠ []) : UInt8.ofNat (97 + (ltrOf p).toNat) = p.getD (p.length - 1) 0 := by
 obtain ⟨h1, h2, h3⟩ := ltrOf_bd hw h
 have h4 := letter_bd ((wordL_iff.1 hw).1 _ (getLast_mem h))
 have e : 97 + (ltrOf p).toNat = (p.getD (p.length - 1) 0).toNat := by omega
 rw [e]; simp
theorem trN_get {P ws : List Txt} (i : Nat) (h : i < (trN P ws).length) : (trN P ws)[i] = mkN (ndL P ws (P.getD i [])) := by
 have h2 : i < P.length := by rwa [trN_length] at h
 rw [← rdN P ws i h2, rd_get _ i h]
theorem prefGo_tr {P : List Txt} (ws : List Txt) (hA : Asc P) (hC : Clo P) (hW : ∀ p ∈ P, wordL p = true) : ∀ (d i : Nat), i + d = P.length → 0 < i → prefGo ((trN P ws).drop i) (P.take i) = some P := by
 intro d
 induction d with
 | zero =>
  intro i h1 h2
  rw [List.drop_of_length_le (by rw [trN_length]; omega), List.take_of_length_le (by omega)]
  rfl
 | succ d ih =>
  intro i h1 h2
  have hi : i < P.length := by omega
  have hit : i < (trN P ws).length := by rw [trN_length]; exact hi
  have hne := clo_pos hA hC hi h2
  have hm := getD_mem hi
  obtain ⟨j1, j2⟩ := clo_parent hA hC hi h2
  obtain ⟨_, b1, b2⟩ := ltrOf_bd (hW _ hm) hne
  rw [List.drop_eq_getElem_cons hit, trN_get i hit]
  have hx : mkN (ndL P ws (P.getD i [])) = ⟨ltrOf (P.getD i []), (placeL P (P.getD i []).dropLast : Int), decide (P.getD i [] ∈ ws)⟩ := by unfold mkN ndL; rw [if_neg hne, if_neg hne]
  rw [hx]
  unfold prefGo
  have hl : (P.take i).length = i := by rw [List.length_take]; omega
  rw [if_pos ⟨Int.natCast_nonneg _, by show ((placeL P (P.getD i []).dropLast : Nat) : Int) < ((P.take i).length : Int); rw [hl]; exact Int.ofNat_lt.2 j1, b1, b2⟩]
  simp only [Int.toNat_natCast]
  have hg : (P.take i).getD (placeL P (P.getD i []).dropLast) [] = (P.getD i []).dropLast := by
   rw [getD_lt [] (by rw [hl]; exact j1), List.getElem_take, ← getD_lt [] (by omega), j2]
  rw [hg, letter_last (hW _ hm) hne, dropLast_getD _ hne, ← take_succ_getD [] hi]
  exact ih (i + 1) (by omega) (by omega)
theorem prefN_tr {ws : List Txt} (h : OkW ws) : prefN (trN (preL ws) ws) = some (preL ws) := by
 obtain ⟨z1, z2⟩ := clo_zero (asc_preL ws) (clo_preL ws)
 unfold prefN
 rw [trN_length, if_pos ⟨z1, h.pre⟩]
 have := prefGo_tr ws (asc_preL ws) (clo_preL ws) (fun p hp => preL_word h.word hp) ((preL ws).length - 1) 1 (by omega) (by omega)
 rw [show (preL ws).take 1 = [[]] from by rw [take_succ_getD [] z1, z2]; rfl] at this
 exact this
theorem prefixes_tr {ws : List Txt} (h : OkW ws) : Ev (fun k => impl_Trie_prefixes.f k (trN (preL ws) ws)) ((preL ws).map B, true) := by
 have := prefixes_ev (trN (preL ws) ws)
 rw [prefN_tr h] at this
 exact this
theorem trieOf_in (ws0 xs : List Txt) (w : Txt) (hw : w.length ≤ 12) (i : Nat) (hi : i ≤ 100000) (r : List Nd) (acc2 : List Txt) (hr : Ev (fun k => impl_trieOf.l0 k (ws0.map B) (acc2.map B) (xs.map B) (xs.length : Int) ((i + 1 : Nat) : Int)) r) :
  ∀ (d n : Nat) (acc : List Txt), n + d = w.length → acc ++ begF w (n + 1) d = acc2 → acc2.length ≤ 1000000 → Ev (fun k => impl_trieOf.l1 k (ws0.map B) (acc.map B) (B w) (xs.map B) (xs.length : Int) (i : Int) (w.length : Int) (n : Int)) r := by
 intro d
 induction d with
 | zero =>
  intro n acc h1 h2 h3
  rw [begF, List.append_nil] at h2
  subst h2
  refine Ev.step (fun k => impl_trieOf.l1.eq_2 ..) (Ev.ifF (by omega) ?_)
  rw [wrap64_succ i (by omega)]
  exact hr
 | succ d ih =>
  intro n acc h1 h2 h3
  have hl : acc.length ≤ 1000000 := by rw [← h2, List.length_append] at h3; omega
  refine Ev.step (fun k => impl_trieOf.l1.eq_2 ..) (Ev.ifT (by omega) ?_)
  rw [wrap64_succ n (by omega)]
  refine Ev.ifT (by omega) (Ev.ifT (by rw [size_B]; omega) (Ev.ifT (by rw [List.length_map]; omega) ?_))
  rw [extract_B, List.drop_zero, Int.toNat_natCast, Nat.sub_zero]
  have := ih (n + 1) (acc ++ [w.take (n + 1)]) (by omega) (by rw [← h2, begF]; simp) h3
  rw [List.map_append, List.map_singleton] at this
  exact this
theorem trieOf_out (ws0 xs : List Txt) (hl : xs.length ≤ 1000) (hw : ∀ w ∈ xs, w.length ≤ 12) (r : List Nd) (hr : Ev (fun k => impl_trieOf.l2 k (ws0.map B) ((preL xs).map B) ((preL xs).length : Int) 0 []) r) :
  ∀ (d i : Nat) (acc : List Txt), i + d = xs.length → acc ++ (xs.drop i).flatMap begs = [] :: xs.flatMap begs → Ev (fun k => impl_trieOf.l0 k (ws0.map B) (acc.map B) (xs.map B) (xs.length : Int) (i : Int)) r := by
 have hall := flatMap_begs_length xs hw
 have hpl := preL_length hw
 intro d
 induction d with
 | zero =>
  intro i acc h1 h2
  rw [List.drop_of_length_le (by omega), List.flatMap_nil, List.append_nil] at h2
  subst h2
  refine Ev.step (fun k => impl_trieOf.l0.eq_2 ..) (Ev.ifF (by omega) ?_)
  rw [set_eq _ (by rw [List.length_cons]; omega)]
  refine Ev.some_bind (Ev.ifT ?_ ?_)
  ·
   unfold SM.okL
   rw [Bool.and_eq_true, List.all_eq_true, decide_eq_true_eq]
   refine ⟨fun x hx => ?_, by rw [List.length_map]; show (preL xs).length ≤ _; omega⟩
   obtain ⟨y, hy, rfl⟩ := List.mem_map.1 hx
   have hy' : y ∈ preL xs := hy
   have : y.length ≤ 12 := by
    rcases mem_preL.1 hy' with rfl | ⟨w, hw', _, hp⟩
    ·
     simp
    ·
     exact Nat.le_trans hp.length_le (hw w hw')
   rw [decide_eq_true_eq, size_B]; omega
  ·
   rw [List.length_map]
   exact hr
 | succ d ih =>
  intro i acc h1 h2
  have hi : i < xs.length := by omega
  rw [drop_cons_getD [] hi, List.flatMap_cons, ← List.append_assoc] at h2
  refine Ev.step (fun k => impl_trieOf.l0.eq_2 ..) (Ev.ifT (by omega) (Ev.ifT (by omega) (Ev.ifT (by rw [List.length_map]; omega) ?_)))
  rw [rdB xs i hi, size_B]
  have hlen : (acc ++ begs (xs.getD i [])).length ≤ 1000000 := by
   have := congrArg List.length h2
   rw [List.length_append, List.length_cons] at this
   omega
  exact trieOf_in ws0 xs _ (hw _ (getD_mem hi)) i (by omega) r _ (ih (i + 1) _ (by omega) h2) (xs.getD i []).length 0 acc (by omega) (by rw [begs_begF]) hlen
theorem at_take {P : List Txt} (hA : Asc P) (q : Txt) (j : Nat) (hj : j < P.length) (hq : P.getD j [] = q) : ∀ n, n ≤ P.length → j < n → SM.at_ (List.take n (P.map B)) (B q) = (j : Int) := by
 intro n
 induction n with
 | zero => intro _ h; omega
 | succ n ih =>
  intro h1 h2
  have hn : n < P.length := by omega
  rw [← List.map_take, take_succ_getD [] hn, List.map_append, List.map_singleton]
  unfold SM.at_
  rw [List.reverse_append, List.reverse_singleton, List.singleton_append, SM.atR, data_B, data_B]
  by_cases e : P.getD n [] = q
  ·
   have : n = j := asc_inj hA hn hj (e.trans hq.symm)
   rw [if_pos e, List.length_reverse, List.length_map, List.length_take]; omega
  ·
   have hjn : j < n := by
    rcases Nat.lt_or_ge j n with h | h
    ·
     exact h
    ·
     have : j = n := by omega
     subst this; exact absurd hq e
   rw [if_neg e, List.map_take]
   exact ih (by omega) hjn
theorem trieOf_nodes {ws P : List Txt} (hs : Srt ws) (hA : Asc P) (hC : Clo P) (hW : ∀ p ∈ P, wordL p = true) (hP : P.length ≤ 100000) (hl : ws.length ≤ 100000) : ∀ (d i : Nat) (acc : List Nd), i + d = P.length → acc.length ≤ i →
  Ev (fun k => impl_trieOf.l2 k (ws.map B) (P.map B) (P.length : Int) (i : Int) acc) (acc ++ ((P.drop i).map fun p => mkN (ndL P ws p))) := by
 intro d
 induction d with
 | zero =>
  intro i acc h1 h2
  rw [List.drop_of_length_le (by omega), List.map_nil, List.append_nil]
  exact Ev.step (fun k => impl_trieOf.l2.eq_2 ..) (Ev.ifF (by omega) (Ev.now _))
 | succ d ih =>
  intro i acc h1 h2
  have hi : i < P.length := by omega
  have hm := getD_mem hi
  rw [drop_cons_getD [] hi, List.map_cons]
  refine Ev.step (fun k => impl_trieOf.l2.eq_2 ..) (Ev.ifT (by omega) (Ev.ifT (by omega) (Ev.ifT (by rw [List.length_map]; omega) ?_)))
  rw [rdB P i hi]
  obtain ⟨q, _, _, _, hq⟩ := search_ev ws (P.getD i []) (by omega) hs
  refine Ev.bind hq ?_
  have hcons : ∀ x : Nd, acc ++ (x :: (P.drop (i + 1)).map fun p => mkN (ndL P ws p)) = (acc ++ [x]) ++ (P.drop (i + 1)).map fun p => mkN (ndL P ws p) := fun x => by simp
  rw [hcons, toList_B]
  by_cases hp : P.getD i [] = []
  ·
   refine Ev.ifT hp (Ev.ifT (by omega) ?_)
   have hx : mkN (ndL P ws (P.getD i [])) = ⟨-1, -1, decide (P.getD i [] ∈ ws)⟩ := by unfold mkN ndL; rw [if_pos hp, if_pos hp]
   rw [hx, wrap64_succ i (by omega)]
   exact ih (i + 1) _ (by omega) (by simp; omega)
  ·
   have h0 : 0 < i := by
    rcases Nat.eq_zero_or_pos i with e | e
    ·
     rw [e, (clo_zero hA hC).2] at hp; exact absurd rfl hp
    ·
     exact e
   have hlen := List.length_pos_iff.2 hp
   have h12 := (wordL_iff.1 (hW _ hm)).2
   obtain ⟨j1, j2⟩ := clo_parent hA hC hi h0
   have hw1 : wrap64 (((B (P.getD i [])).size : Int) - 1) = ((P.getD i []).length - 1 : Nat) := by rw [size_B, wrap64_id (by omega) (by omega)]; omega
   rw [hw1]
   refine Ev.ifF hp (Ev.ifT (by omega) (Ev.ifT (by rw [size_B]; omega) (Ev.ifT (by rw [size_B]; omega) (Ev.ifT (by omega) ?_))))
   rw [extract_B, List.drop_zero, Int.toNat_natCast, Int.toNat_natCast, Nat.sub_zero, ← List.dropLast_eq_take, at_take hA _ _ (by omega) j2 (i + 1) (by omega) (by omega)]
   have hx : mkN (ndL P ws (P.getD i [])) = ⟨((bt (B (P.getD i [])) (((P.getD i []).length - 1 : Nat) : Int)) - 97) % 256, (placeL P (P.getD i []).dropLast : Int), decide (P.getD i [] ∈ ws)⟩ := by
    unfold mkN ndL
    rw [if_neg hp, if_neg hp, bt_B _ _ (by omega)]
    rfl
   rw [hx, wrap64_succ i (by omega)]
   exact ih (i + 1) _ (by omega) (by simp; omega)
theorem trieOf_srt {ws : List Txt} (hs : Srt ws) (hw : ∀ w ∈ ws, wordL w = true) (hl : ws.length ≤ 1000) : Ev (fun k => impl_trieOf.f k (ws.map B)) (trN (preL ws) ws) := by
 have hle : ∀ w ∈ ws, w.length ≤ 12 := fun w h => (wordL_iff.1 (hw w h)).2
 have hpl := preL_length hle
 have hn := trieOf_nodes hs (asc_preL ws) (clo_preL ws) (fun p hp => preL_word hw hp) (by omega) (by omega) (preL ws).length 0 [] (by omega) (by simp)
 rw [List.drop_zero, List.nil_append] at hn
 have e : (preL ws).map (fun p => mkN (ndL (preL ws) ws p)) = trN (preL ws) ws := by unfold trN nodesL; rw [List.map_map]; rfl
 rw [e] at hn
 unfold impl_trieOf.f
 rw [List.length_map]
 exact trieOf_out ws ws hl hle _ hn ws.length 0 [[]] (by omega) rfl
theorem trieOf_ev {ws : List Txt} (h : OkW ws) : Ev (fun k => impl_trieOf.f k (ws.map B)) (trN (preL ws) ws) := trieOf_srt (srt_asc h.asc) h.word (by have := h.len; omega)
theorem trN_set {ws : List Txt} : trN (preL ws) ws = trN (preL (setL ws)) (setL ws) := by
 have e : preL (setL ws) = preL ws := preL_congr fun w => mem_setL ws w
 rw [e]
 unfold trN nodesL
 rw [List.map_map, List.map_map]
 refine List.map_congr_left fun p _ => ?_
 show mkN (ndL (preL ws) ws p) = mkN (ndL (preL ws) (setL ws) p)
 unfold ndL
 rw [show decide (p ∈ ws) = decide (p ∈ setL ws) from decide_eq_decide.2 (mem_setL ws p).symm]
theorem isSorted_loop (ws : List Txt) (hl : ws.length ≤ 4611686018427387903) : ∀ (n : Nat), n < ws.length → ∃ b : Bool, (b = true ↔ ∀ j, j < n → ¬ ws.getD (j + 1) [] < ws.getD j []) ∧ Ev (fun k => slices_IsSorted_string_string.l0 k (ws.map B) (n : Int)) b := by
 intro n
 induction n with
 | zero =>
  intro _
  exact ⟨true, by simp, Ev.step (fun k => slices_IsSorted_string_string.l0.eq_2 ..) (Ev.ifF (by simp) (Ev.now _))⟩
 | succ n ih =>
  intro hn
  have hw : wrap64 (((n + 1 : Nat) : Int) - 1) = (n : Int) := by rw [wrap64_id (by omega) (by omega)]; omega
  by_cases hlt : ws.getD (n + 1) [] < ws.getD n []
  ·
   refine ⟨false, ?_, Ev.step (fun k => slices_IsSorted_string_string.l0.eq_2 ..) (Ev.ifT (by omega) (Ev.ifT (by omega) (Ev.ifT (by rw [List.length_map]; omega) (Ev.ifT (by rw [hw]; omega) (Ev.ifT (by rw [hw, List.length_map]; omega) ?_)))))⟩
   ·
    simp only [Bool.false_eq_true, false_iff]
    exact fun h => h n (Nat.lt_succ_self n) hlt
   ·
    rw [hw, rdB ws (n + 1) hn, rdB ws n (by omega), less_eq, decide_eq_true hlt]
    exact Ev.some_bind (Ev.ifT rfl (Ev.now _))
  ·
   obtain ⟨b, hb, he⟩ := ih (by omega)
   refine ⟨b, hb.trans ⟨fun h j hj => ?_, fun h j hj => h j (by omega)⟩, Ev.step (fun k => slices_IsSorted_string_string.l0.eq_2 ..) (Ev.ifT (by omega) (Ev.ifT (by omega) (Ev.ifT (by rw [List.length_map]; omega) (Ev.ifT (by rw [hw]; omega) (Ev.ifT (by rw [hw, List.length_map]; omega) ?_)))))⟩
   ·
    by_cases e : j = n
    ·
     rw [e]; exact hlt
    ·
     exact h j (by omega)
   ·
    rw [hw, rdB ws (n + 1) hn, rdB ws n (by omega), less_eq, decide_eq_false hlt]
    exact Ev.some_bind (Ev.ifF Bool.false_ne_true he)
theorem isSorted_ev (ws : List Txt) (hl : ws.length ≤ 4611686018427387903) : ∃ b : Bool, (b = true ↔ Srt ws) ∧ Ev (fun k => slices_IsSorted_string_string.f k (ws.map B)) b := by
 unfold slices_IsSorted_string_string.f
 rcases Nat.eq_zero_or_pos ws.length with h0 | h0
 ·
  refine ⟨true, ⟨fun _ j hj => by omega, fun _ => rfl⟩, ?_⟩
  rw [List.length_map, h0]
  exact Ev.step (fun k => slices_IsSorted_string_string.l0.eq_2 ..) (Ev.ifF (by rw [wrap64_id (by omega) (by omega)]; omega) (Ev.now _))
 ·
  obtain ⟨b, hb, he⟩ := isSorted_loop ws hl (ws.length - 1) (by omega)
  refine ⟨b, hb.trans ⟨fun h j hj => h j (by omega), fun h j hj => h j (by omega)⟩, ?_⟩
  rw [List.length_map, show wrap64 ((ws.length : Int) - 1) = ((ws.length - 1 : Nat) : Int) from by rw [wrap64_id (by omega) (by omega)]; omega]
  exact he
theorem equal_loop (M N : List Nd) (hM : M.length ≤ 4611686018427387903) (he : M.length = N.length) : ∀ (d i : Nat), i + d = M.length → Ev (fun k => impl_Node.l0 k M N (M.length : Int) (i : Int)) (decide (M.drop i = N.drop i)) := by
 intro d
 induction d with
 | zero =>
  intro i h1
  refine Ev.step (fun k => impl_Node.l0.eq_2 ..) (Ev.ifF (by omega) ?_)
  rw [decide_eq_true (show M.drop i = N.drop i by rw [List.drop_of_length_le (by omega), List.drop_of_length_le (by omega)])]
  exact Ev.now _
 | succ d ih =>
  intro i h1
  refine Ev.step (fun k => impl_Node.l0.eq_2 ..) (Ev.ifT (by omega) (Ev.ifT (by omega) (Ev.ifT (by omega) (Ev.ifT (by omega) ?_))))
  rw [node_ne, rd_get M i (by omega), rd_get N i (by omega), List.drop_eq_getElem_cons (show i < M.length by omega), List.drop_eq_getElem_cons (show i < N.length by omega)]
  by_cases e : M[i] = N[i]
  ·
   refine Ev.ifF (by simp [e]) ?_
   rw [wrap64_succ i (by omega), show decide (M[i] :: M.drop (i + 1) = N[i] :: N.drop (i + 1)) = decide (M.drop (i + 1) = N.drop (i + 1)) from decide_eq_decide.2 ⟨fun h => (List.cons.inj h).2, fun h => by rw [e, h]⟩]
   exact ih (i + 1) (by omega)
  ·
   refine Ev.ifT (by simp [e]) ?_
   rw [show decide (M[i] :: M.drop (i + 1) = N[i] :: N.drop (i + 1)) = false from decide_eq_false fun h => e (List.cons.inj h).1]
   exact Ev.now _
theorem equal_ev (M N : List Nd) (hM : M.length ≤ 4611686018427387903) : Ev (fun k => impl_Node.f k M N) (decide (M = N)) := by
 unfold impl_Node.f
 by_cases he : M.length = N.length
 ·
  refine Ev.ifT (by omega) ?_
  have := equal_loop M N hM he M.length 0 (by omega)
  rwa [List.drop_zero, List.drop_zero] at this
 ·
  rw [decide_eq_false fun e => he (by rw [e])]
  exact Ev.ifF (by omega) (Ev.now _)
def wordsGo : List Nd → List Txt → List Txt
 | n :: r, p :: ps => if n.f2 = true then p :: wordsGo r ps else wordsGo r ps
 | _, _ => []
theorem wordsGo_mem : ∀ (N : List Nd) (ps : List Txt) (w : Txt), w ∈ wordsGo N ps → w ∈ ps
 | n :: r, p :: ps, w, h => by
  unfold wordsGo at h
  by_cases hf : n.f2 = true
  ·
   rw [if_pos hf] at h
   rcases List.mem_cons.1 h with e | h
   ·
    rw [e]; exact List.mem_cons_self
   ·
    exact List.mem_cons_of_mem _ (wordsGo_mem r ps w h)
  ·
   rw [if_neg hf] at h
   exact List.mem_cons_of_mem _ (wordsGo_mem r ps w h)
 | [], _, _, h => by simp [wordsGo] at h
 | _ :: _, [], _, h => by simp [wordsGo] at h
theorem wordsGo_len : ∀ (N : List Nd) (ps : List Txt), (wordsGo N ps).length ≤ N.length
 | n :: r, p :: ps => by
  have := wordsGo_len r ps
  unfold wordsGo
  by_cases hf : n.f2 = true
  ·
   rw [if_pos hf, List.length_cons, List.length_cons]; omega
  ·
   rw [if_neg hf, List.length_cons]; omega
 | [], _ => by simp [wordsGo]
 | _ :: _, [] => by simp [wordsGo]
theorem wordsGo_tr (P ws : List Txt) : ∀ Q : List Txt, wordsGo (Q.map fun p => mkN (ndL P ws p)) Q = Q.filter fun p => decide (p ∈ ws)
 | [] => rfl
 | q :: Q => by
  rw [List.map_cons, wordsGo, wordsGo_tr P ws Q, List.filter_cons]
  rfl
theorem words_loop (N : List Nd) (ps : List Txt) (hN : N.length ≤ 1000000) (hp : ps.length = N.length) : ∀ (d i : Nat) (acc : List Txt), i + d = N.length → acc.length ≤ i →
  Ev (fun k => impl_Trie_words.l0 k (ps.map B) (acc.map B) N (N.length : Int) (i : Int)) ((acc ++ wordsGo (N.drop i) (ps.drop i)).map B) := by
 intro d
 induction d with
 | zero =>
  intro i acc h1 h2
  rw [List.drop_of_length_le (by omega)]
  exact Ev.step (fun k => impl_Trie_words.l0.eq_2 ..) (Ev.ifF (by omega) (by simpa [wordsGo] using Ev.now _))
 | succ d ih =>
  intro i acc h1 h2
  have hi : i < N.length := by omega
  rw [List.drop_eq_getElem_cons hi, drop_cons_getD [] (show i < ps.length by omega), wordsGo]
  refine Ev.step (fun k => impl_Trie_words.l0.eq_2 ..) (Ev.ifT (by omega) (Ev.ifT (by omega) (Ev.ifT (by omega) ?_)))
  rw [rd_get N i hi]
  by_cases hf : N[i].f2 = true
  ·
   rw [if_pos hf]
   refine Ev.ifT hf (Ev.ifT (by rw [List.length_map]; omega) (Ev.ifT (by rw [List.length_map]; omega) ?_))
   rw [rdB ps i (by omega), wrap64_succ i (by omega)]
   have := ih (i + 1) (acc ++ [ps.getD i []]) (by omega) (by simp; omega)
   rw [List.map_append (l₁ := acc), List.map_singleton, List.append_assoc] at this
   exact this
  ·
   rw [if_neg hf]
   refine Ev.ifF hf ?_
   rw [wrap64_succ i (by omega)]
   exact ih (i + 1) acc (by omega) (by omega)
theorem words_of {N : List Nd} {ps : List Txt} (h : prefN N = some ps) : N.length ≤ 481 ∧ ps.length = N.length ∧ (∀ p ∈ ps, ∀ c ∈ p, letterB c = true) ∧ Ev (fun k => impl_Trie_words.f k N) ((wordsGo N ps).map B) := by
 have hp := prefixes_ev N
 rw [h] at hp
 unfold prefN at h
 by_cases hn : 1 ≤ N.length ∧ N.length ≤ 481
 ·
  rw [if_pos hn] at h
  obtain ⟨h1, h2⟩ := prefGo_ok _ _ _ h (by simp)
  rw [List.length_drop, List.length_singleton] at h2
  refine ⟨hn.2, by omega, h1, ?_⟩
  unfold impl_Trie_words.f
  refine Ev.bind hp ?_
  exact words_loop N ps (by omega) (by omega) N.length 0 [] (by omega) (by simp)
 ·
  rw [if_neg hn] at h; cases h
theorem words_ev {ws : List Txt} (h : OkW ws) : Ev (fun k => impl_Trie_words.f k (trN (preL ws) ws)) (ws.map B) := by
 obtain ⟨_, _, _, h4⟩ := words_of (prefN_tr h)
 have e : wordsGo (trN (preL ws) ws) (preL ws) = ws := by
  have : trN (preL ws) ws = (preL ws).map fun p => mkN (ndL (preL ws) ws p) := by unfold trN nodesL; rw [List.map_map]; rfl
  rw [this, wordsGo_tr, filter_preL h.asc]
 rwa [e] at h4
theorem isTrie_ev (N : List Nd) : ∃ b : Bool, (b = true ↔ IsTr N) ∧ Ev (fun k => impl_isTrie.f k N) b := by
 have hpre := prefixes_ev N
 have no : ∀ M : List Nd, Ev (fun k => impl_isTrie.j0 k true M) false := fun M => Ev.step (fun k => impl_isTrie.j0.eq_2 ..) (Ev.ifT rfl (Ev.now _))
 cases hp : prefN N with
 | none =>
  rw [hp] at hpre
  refine ⟨false, ?_, ?_⟩
  ·
   simp only [Bool.false_eq_true, false_iff]
   rintro ⟨ws, h, rfl⟩
   rw [prefN_tr h] at hp; cases hp
  ·
   unfold impl_isTrie.f
   exact Ev.bind hpre (Ev.ifF Bool.false_ne_true (no N))
 | some ps =>
  rw [hp] at hpre
  obtain ⟨w1, w2, w3, w4⟩ := words_of hp
  have hany : impl_isTrie_any.f (ps.map B) = some (decide (∃ p ∈ ps, 12 < p.length)) := by
   unfold impl_isTrie_any.f
   congr 1
   rw [Bool.eq_iff_iff, List.any_eq_true, decide_eq_true_eq]
   constructor
   ·
    rintro ⟨x, hx, e⟩
    obtain ⟨y, hy, rfl⟩ := List.mem_map.1 hx
    refine ⟨y, hy, ?_⟩
    unfold impl_isTrie_any.p at e
    rw [size_B, decide_eq_true_eq] at e
    omega
   ·
    rintro ⟨y, hy, e⟩
    refine ⟨B y, List.mem_map.2 ⟨y, hy, rfl⟩, ?_⟩
    unfold impl_isTrie_any.p
    rw [size_B, decide_eq_true_eq]
    omega
  by_cases hlong : ∃ p ∈ ps, 12 < p.length
  ·
   rw [decide_eq_true hlong] at hany
   refine ⟨false, ?_, ?_⟩
   ·
    simp only [Bool.false_eq_true, false_iff]
    rintro ⟨ws, h, rfl⟩
    rw [prefN_tr h] at hp
    obtain rfl := Option.some.inj hp
    obtain ⟨p, hpm, hpl⟩ := hlong
    have := (wordL_iff.1 (preL_word h.word hpm)).2
    omega
   ·
    unfold impl_isTrie.f
    refine Ev.bind hpre (Ev.ifT rfl ?_)
    show Ev (fun k => (impl_isTrie_any.f (ps.map B)).bind _) false
    rw [hany]
    exact Ev.some_bind (no N)
  ·
   rw [decide_eq_false hlong] at hany
   have hword : ∀ w ∈ wordsGo N ps, wordL w = true := fun w hw => by
    have hm := wordsGo_mem N ps w hw
    refine wordL_iff.2 ⟨w3 w hm, ?_⟩
    rcases Nat.lt_or_ge 12 w.length with h | h
    ·
     exact absurd ⟨w, hm, h⟩ hlong
    ·
     exact h
   have hwl := wordsGo_len N ps
   have hcase : ∀ b : Bool, Ev (fun k => impl_isTrie.j0 k false N) b → Ev (fun k => impl_isTrie.f k N) b := fun b hb => by
    unfold impl_isTrie.f
    refine Ev.bind hpre (Ev.ifT rfl ?_)
    show Ev (fun k => (impl_isTrie_any.f (ps.map B)).bind _) b
    rw [hany]
    exact Ev.some_bind hb
   have hval : ∀ ws, OkW ws → N = trN (preL ws) ws → wordsGo N ps = ws := fun ws h e => by
    subst e
    rw [prefN_tr h] at hp
    obtain rfl := Option.some.inj hp
    have : trN (preL ws) ws = (preL ws).map fun p => mkN (ndL (preL ws) ws p) := by unfold trN nodesL; rw [List.map_map]; rfl
    rw [this, wordsGo_tr, filter_preL h.asc]
   by_cases h40 : (wordsGo N ps).length ≤ 40
   ·
    obtain ⟨b, hb, hsv⟩ := isSorted_ev (wordsGo N ps) (by omega)
    by_cases hs : Srt (wordsGo N ps)
    ·
     have hbt := hb.2 hs
     subst hbt
     refine ⟨decide (trN (preL (wordsGo N ps)) (wordsGo N ps) = N), ?_, hcase _ ?_⟩
     ·
      rw [decide_eq_true_eq]
      constructor
      ·
       intro e
       refine ⟨setL (wordsGo N ps), ⟨asc_setL _, Nat.le_trans (setL_length_le _) h40, fun w hw => hword w ((mem_setL _ w).1 hw)⟩, ?_⟩
       rw [← trN_set, e]
      ·
       rintro ⟨ws, h, e⟩
       rw [hval ws h e, e]
     ·
      refine Ev.step (fun k => impl_isTrie.j0.eq_2 ..) (Ev.ifF Bool.false_ne_true (Ev.bind w4 (Ev.ifT (by rw [List.length_map]; omega) (Ev.bind hsv (Ev.ifT rfl (Ev.bind (trieOf_srt hs hword (by omega)) (Ev.bind (equal_ev _ _ ?_) (Ev.now _))))))))
      rw [trN_length]
      have := preL_length (ws := wordsGo N ps) (fun w hw => (wordL_iff.1 (hword w hw)).2)
      omega
    ·
     have hbf : b = false := by
      cases b with
      | false => rfl
      | true => exact absurd (hb.1 rfl) hs
     subst hbf
     refine ⟨false, ?_, hcase _ (Ev.step (fun k => impl_isTrie.j0.eq_2 ..) (Ev.ifF Bool.false_ne_true (Ev.bind w4 (Ev.ifT (by rw [List.length_map]; omega) (Ev.bind hsv (Ev.ifF Bool.false_ne_true (Ev.now _)))))))⟩
     simp only [Bool.false_eq_true, false_iff]
     rintro ⟨ws, h, e⟩
     exact hs (by rw [hval ws h e]; exact srt_asc h.asc)
   ·
    refine ⟨false, ?_, hcase _ (Ev.step (fun k => impl_isTrie.j0.eq_2 ..) (Ev.ifF Bool.false_ne_true (Ev.bind w4 (Ev.ifF (by rw [List.length_map]; omega) (Ev.now _)))))⟩
    simp only [Bool.false_eq_true, false_iff]
    rintro ⟨ws, h, e⟩
    rw [hval ws h e] at h40
    exact h40 h.len
def toN (l : List S82) : List Nd := l.map fun x => ⟨x.f0, x.f1, x.f2⟩
theorem toN_length (l : List S82) : (toN l).length = l.length := by simp [toN]
theorem szTrie_eq (l : List S82) (h : l.length ≤ 9223372036854775807) : laws_szTrie.f l 1048576 = some (if l.length ≤ 1048576 then 1048576 - (l.length : Int) else -1) := by
 unfold laws_szTrie.f laws_szNodeS.f
 rw [wrap64_id (by omega) (by omega)]
 by_cases hs : l.length ≤ 1048576
 ·
  rw [if_neg (by omega), if_pos hs, Option.bind_some, if_neg (by omega)]
 ·
  rw [if_pos (by omega), if_neg hs, Option.bind_some, if_pos (by omega)]
theorem toNodeS_loop (l : List S82) (hl : l.length ≤ 1048576) : ∀ (d i : Nat), i + d = l.length → Ev (fun k => laws_toNodeS.l0 k l ((toN l).take i ++ List.replicate ((toN l).length - i) z80) (i : Int)) (toN l) := by
 intro d
 induction d with
 | zero =>
  intro i h
  rw [List.take_of_length_le (by rw [toN_length]; omega), show (toN l).length - i = 0 from by rw [toN_length]; omega, List.replicate_zero, List.append_nil]
  exact Ev.step (fun k => laws_toNodeS.l0.eq_2 ..) (Ev.ifF (by omega) (Ev.now _))
 | succ d ih =>
  intro i h
  have hi : i < l.length := by omega
  have hi2 : i < (toN l).length := by rw [toN_length]; exact hi
  have hlen : ((toN l).take i ++ List.replicate ((toN l).length - i) z80).length = l.length := by
   rw [List.length_append, List.length_take, List.length_replicate, toN_length]; omega
  refine Ev.step (fun k => laws_toNodeS.l0.eq_2 ..) (Ev.ifT (by omega) (Ev.ifT (by omega) ?_))
  unfold laws_toNode.f
  refine Ev.some_bind (Ev.ifT (by rw [hlen]; omega) ?_)
  have hx : (⟨(rd_T82 l (i : Int)).f0, (rd_T82 l (i : Int)).f1, (rd_T82 l (i : Int)).f2⟩ : Nd) = (toN l).getD i z80 := by
   unfold rd_T82 toN
   rw [Int.toNat_natCast, getD_lt _ hi, getD_lt _ (by simpa using hi), List.getElem_map]
  rw [hx, Int.toNat_natCast, fill_set _ _ _ hi2, wrap64_succ i (by omega)]
  exact ih (i + 1) (by omega)
theorem toTrie_ev (l : List S82) (hl : l.length ≤ 1048576) : Ev (fun k => laws_toTrie.f k l) (toN l) := by
 unfold laws_toTrie.f laws_toNodeS.f
 refine Ev.bind (f := fun k t => some t) (Ev.ifT (by omega) (Ev.ifT (by omega) ?_)) (Ev.now _)
 have := toNodeS_loop l hl l.length 0 (by omega)
 rw [List.take_zero, List.nil_append, toN_length, Nat.sub_zero] at this
 exact this
theorem eqNode_self (a b : Int) (c : Bool) : laws_eqNode.f a b c a b c = some true := by
 unfold laws_eqNode.f
 rw [if_pos rfl, if_pos rfl, if_neg (by simp)]
theorem eqNodeS_loop (N : List Nd) (hN : N.length ≤ 4611686018427387903) : ∀ (d i : Nat), i + d = N.length → Ev (fun k => laws_eqNodeS.l0 k N N (i : Int)) true := by
 intro d
 induction d with
 | zero => intro i h; exact Ev.step (fun k => laws_eqNodeS.l0.eq_2 ..) (Ev.ifF (by omega) (Ev.now _))
 | succ d ih =>
  intro i h
  refine Ev.step (fun k => laws_eqNodeS.l0.eq_2 ..) (Ev.ifT (by omega) (Ev.ifT (by omega) (Ev.ifT (by omega) ?_)))
  rw [eqNode_self]
  refine Ev.some_bind (Ev.ifT rfl ?_)
  rw [wrap64_succ i (by omega)]
  exact ih (i + 1) (by omega)
theorem eqTrie_ev (N : List Nd) (hN : N.length ≤ 4611686018427387903) : Ev (fun k => laws_eqTrie.f k N N) true := by
 unfold laws_eqTrie.f laws_eqNodeS.f
 exact Ev.bind (f := fun k t => if t = true then some true else some false) (Ev.ifT rfl (eqNodeS_loop N hN N.length 0 (by omega))) (Ev.ifT rfl (Ev.now _))
theorem trie_both (N : List Nd) : (IsTr N ∧ Ev (fun k => spec_l2Trie.f k N) true ∧ Ev (fun k => impl_isTrie.f k N) true) ∨ (¬ IsTr N ∧ Ev (fun k => spec_l2Trie.f k N) false ∧ Ev (fun k => impl_isTrie.f k N) false) := by
 obtain ⟨b1, c1, e1⟩ := l2Trie_ev N
 obtain ⟨b2, c2, e2⟩ := isTrie_ev N
 by_cases h : IsTr N
 ·
  obtain rfl := c1.2 h
  obtain rfl := c2.2 h
  exact .inl ⟨h, e1, e2⟩
 ·
  cases b1 with
  | true => exact absurd (c1.1 rfl) h
  | false =>
   cases b2 with
   | true => exact absurd (c2.1 rfl) h
   | false => exact .inr ⟨h, e1, e2⟩
theorem drawn_both (N : List Nd) : (∃ ws, OkW ws ∧ 0 < ws.length ∧ N = trN (preL ws) ws ∧ Ev (fun k => spec_l9Drawn.f k N) true ∧ Ev (fun k => impl_isDrawn.f k N) true) ∨ (Ev (fun k => spec_l9Drawn.f k N) false ∧ Ev (fun k => impl_isDrawn.f k N) false) := by
 unfold spec_l9Drawn.f impl_isDrawn.f
 rcases trie_both N with ⟨⟨ws, h, rfl⟩, e1, e2⟩ | ⟨h, e1, e2⟩
 ·
  rcases Nat.eq_zero_or_pos ws.length with h0 | h0
  ·
   refine .inr ⟨Ev.bind e1 (Ev.ifT rfl (Ev.bind (l2Words_ev h) ?_)), Ev.bind e2 (Ev.ifT rfl (Ev.bind (words_ev h) ?_))⟩
   ·
    rw [List.length_map, decide_eq_false (by omega)]; exact Ev.now _
   ·
    rw [List.length_map, decide_eq_false (by omega)]; exact Ev.now _
  ·
   refine .inl ⟨ws, h, h0, rfl, Ev.bind e1 (Ev.ifT rfl (Ev.bind (l2Words_ev h) ?_)), Ev.bind e2 (Ev.ifT rfl (Ev.bind (words_ev h) ?_))⟩
   ·
    rw [List.length_map, decide_eq_true (by omega)]; exact Ev.now _
   ·
    rw [List.length_map, decide_eq_true (by omega)]; exact Ev.now _
 ·
  exact .inr ⟨Ev.bind e1 (Ev.ifF Bool.false_ne_true (Ev.now _)), Ev.bind e2 (Ev.ifF Bool.false_ne_true (Ev.now _))⟩
theorem eqA2_self (a b : Int) : laws_eqIntA2.f a b a b = some true := by unfold laws_eqIntA2.f; simp
theorem f1_iff {P : List Txt} (ws : List Txt) (hA : Asc P) (hC : Clo P) {i j : Nat} (hi : i < P.length) (hj : j < P.length) : (rd_T80 (trN P ws) (j : Int)).f1 = (i : Int) ↔ P.getD j [] ≠ [] ∧ (P.getD j []).dropLast = P.getD i [] := by
 rw [rdN P ws j hj]
 unfold mkN ndL
 by_cases h0 : P.getD j [] = []
 ·
  rw [if_pos h0, if_pos h0]
  exact ⟨fun e => by have : (-1 : Int) = (i : Int) := e; omega, fun h => absurd h0 h.1⟩
 ·
  rw [if_neg h0, if_neg h0]
  obtain ⟨_, h2⟩ := placeL_mem (hC.2 _ (getD_mem hj) h0)
  constructor
  ·
   intro e
   have e2 : placeL P (P.getD j []).dropLast = i := by have : ((placeL P (P.getD j []).dropLast : Nat) : Int) = (i : Int) := e; omega
   rw [e2] at h2
   exact ⟨h0, h2.symm⟩
  ·
   rintro ⟨_, e⟩
   show ((placeL P (P.getD j []).dropLast : Nat) : Int) = (i : Int)
   rw [e, placeL_get hA hi]
def kidF (P : List Txt) (p : Txt) : Nat → Nat → List Int
 | _, 0 => []
 | n, d + 1 => (if P.getD n [] ≠ [] ∧ (P.getD n []).dropLast = p then [(n : Int)] else []) ++ kidF P p (n + 1) d
def kidI (P : List Txt) (p : Txt) : List Int := kidF P p 0 P.length
theorem kidF_len (P : List Txt) (p : Txt) : ∀ d n, n + d = P.length → (kidF P p n d).length = ((P.drop n).filter fun q => decide (q ≠ [] ∧ q.dropLast = p)).length
 | 0, n, h => by rw [List.drop_of_length_le (by omega)]; rfl
 | d + 1, n, h => by
  rw [kidF, List.length_append, kidF_len P p d (n + 1) (by omega), drop_cons_getD [] (show n < P.length by omega), List.filter_cons]
  by_cases hc : P.getD n [] ≠ [] ∧ (P.getD n []).dropLast = p
  ·
   rw [if_pos hc, if_pos (decide_eq_true hc)]; simp only [List.length_cons, List.length_nil]; omega
  ·
   rw [if_neg hc, if_neg (by rw [decide_eq_false hc]; exact Bool.false_ne_true), List.length_nil]; omega
theorem kidI_len (P : List Txt) (p : Txt) : (kidI P p).length = (kidsL P p).length := by
 have := kidF_len P p P.length 0 (by omega)
 rw [List.drop_zero] at this
 exact this
theorem kidF_le (P : List Txt) (p : Txt) : ∀ d n, (kidF P p n d).length ≤ d
 | 0, _ => Nat.le_refl _
 | d + 1, n => by
  have := kidF_le P p d (n + 1)
  rw [kidF, List.length_append]
  split
  ·
   rw [List.length_singleton]; omega
  ·
   rw [List.length_nil]; omega
theorem kidF_split (P : List Txt) (p : Txt) : ∀ a n d, kidF P p n (a + d) = kidF P p n a ++ kidF P p (n + a) d
 | 0, n, d => by rw [Nat.zero_add, Nat.add_zero]; rfl
 | a + 1, n, d => by
  rw [show a + 1 + d = (a + d) + 1 from by omega, kidF, kidF, kidF_split P p a (n + 1) d, List.append_assoc, show n + 1 + a = n + (a + 1) from by omega]
theorem kidF_none {P : List Txt} (hA : Asc P) {i : Nat} (hi : i < P.length) : ∀ d n, n + d ≤ i + 1 → kidF P (P.getD i []) n d = []
 | 0, _, _ => rfl
 | d + 1, n, h => by
  rw [kidF, kidF_none hA hi d (n + 1) (by omega), if_neg, List.append_nil]
  rintro ⟨h1, h2⟩
  have h3 := txt_dropLast_lt _ h1
  rw [h2] at h3
  have := asc_get_lt hA hi (show n < P.length by omega) h3
  omega
theorem kids_ev {P : List Txt} (ws : List Txt) (hA : Asc P) (hC : Clo P) (hP : P.length ≤ 1000000) {i : Nat} (hi : i < P.length) : Ev (fun k => impl_Trie_kids.f k (trN P ws) (i : Int)) (kidI P (P.getD i [])) := by
 have loop : ∀ d n (acc : List Int), n + d = P.length → acc.length ≤ n → Ev (fun k => impl_Trie_kids.l0 k (i : Int) acc (trN P ws) ((trN P ws).length : Int) (n : Int)) (acc ++ kidF P (P.getD i []) n d) := by
  intro d
  induction d with
  | zero =>
   intro n acc h1 h2
   rw [kidF, List.append_nil]
   exact Ev.step (fun k => impl_Trie_kids.l0.eq_2 ..) (Ev.ifF (by rw [trN_length]; omega) (Ev.now _))
  | succ d ih =>
   intro n acc h1 h2
   have hn : n < P.length := by omega
   refine Ev.step (fun k => impl_Trie_kids.l0.eq_2 ..) (Ev.ifT (by rw [trN_length]; omega) (Ev.ifT (by omega) (Ev.ifT (by rw [trN_length]; omega) ?_)))
   rw [kidF, wrap64_succ n (by omega)]
   by_cases hc : P.getD n [] ≠ [] ∧ (P.getD n []).dropLast = P.getD i []
   ·
    rw [if_pos hc, ← List.append_assoc]
    exact Ev.ifT ((f1_iff ws hA hC hi hn).2 hc) (Ev.ifT (by omega) (ih (n + 1) _ (by omega) (by simp; omega)))
   ·
    rw [if_neg hc, List.nil_append]
    exact Ev.ifF (fun h => hc ((f1_iff ws hA hC hi hn).1 h)) (ih (n + 1) acc (by omega) (by omega))
 exact loop P.length 0 [] (by omega) (by simp)
theorem l2Kids_ev {P : List Txt} (ws : List Txt) (hA : Asc P) (hC : Clo P) (hP : P.length ≤ 1000000) {i : Nat} (hi : i < P.length) : Ev (fun k => spec_l2Kids.f k (trN P ws) (i : Int)) (kidI P (P.getD i [])) := by
 have loop : ∀ d n (acc : List Int), n + d = P.length → acc.length ≤ n → Ev (fun k => spec_l2Kids.l0 k (i : Int) acc (n : Int) (trN P ws)) (acc ++ kidF P (P.getD i []) n d) := by
  intro d
  induction d with
  | zero =>
   intro n acc h1 h2
   rw [kidF, List.append_nil]
   exact Ev.step (fun k => spec_l2Kids.l0.eq_2 ..) (Ev.ifF (by rw [trN_length]; omega) (Ev.now _))
  | succ d ih =>
   intro n acc h1 h2
   have hn : n < P.length := by omega
   refine Ev.step (fun k => spec_l2Kids.l0.eq_2 ..) (Ev.ifT (by rw [trN_length]; omega) (Ev.ifT (by omega) ?_))
   rw [kidF, wrap64_succ n (by omega)]
   by_cases hc : P.getD n [] ≠ [] ∧ (P.getD n []).dropLast = P.getD i []
   ·
    rw [if_pos hc, ← List.append_assoc]
    exact Ev.ifT ((f1_iff ws hA hC hi hn).2 hc) (Ev.ifT (by omega) (ih (n + 1) _ (by omega) (by simp; omega)))
   ·
    rw [if_neg hc, List.nil_append]
    exact Ev.ifF (fun h => hc ((f1_iff ws hA hC hi hn).1 h)) (ih (n + 1) acc (by omega) (by omega))
 have h := loop (P.length - (i + 1)) (i + 1) [] (by omega) (by simp)
 have e : kidI P (P.getD i []) = kidF P (P.getD i []) (i + 1) (P.length - (i + 1)) := by
  unfold kidI
  have h1 := kidF_split P (P.getD i []) (i + 1) 0 (P.length - (i + 1))
  rw [show i + 1 + (P.length - (i + 1)) = P.length from by omega, kidF_none hA hi (i + 1) 0 (by omega), List.nil_append, Nat.zero_add] at h1
  exact h1
 rw [e]
 unfold spec_l2Kids.f
 rw [wrap64_succ i (by omega)]
 exact h
end Go.Proofs.Ytgagmodkjmegeaa.L
namespace Go.Proofs.Ytgagmodkjmegeaa.P
open Go.RowKit Go.Proofs.YtgagmodkjmegeaaW.PrintWords Go.Proofs.YtgagmodkjmegeaaW.PrintLast Go.Proofs.YtgagmodkjmegeaaW.PrintMore
open List renaming setIfInBounds_toArray → sA_, set_cons_zero → sB_, set_cons_succ → sC_, map_toArray → sD_, map_cons → sE_, map_nil → sF_, length_drop → sG_, length_take → sH_
open Bool renaming true → ty, false → fy
open Aside0 renaming mk → aM_
attribute [local go_sem] max2_int min2_int max_two min_two max_three min_three max_four min_four
set_option linter.unusedVariables false
set_option linter.unusedSimpArgs false
def spec_l2Kid.l0 : Nat → Int → Int → Int → List (S80) → Option (Int)
 | 0, _, _, _, _ => none
 | k + 1, x1, x2, x7, x617000 => if x7 < (x617000.length : Int) then (if 0 ≤ x7 then (if ((rd_T80 x617000 x7).f1) = x1 then (if ((rd_T80 x617000 x7).f0) = x2 then (some x7) else (spec_l2Kid.l0 k x1 x2 (wrap64 (x7 + 1)) x617000)) else (spec_l2Kid.l0 k x1 x2 (wrap64 (x7 + 1)) x617000)) else (none)) else (some (-1))
def spec_l2Kid.f (k : Nat) (l0_0 : List (S80)) (a1 : Int) (a2 : Int) : Option (Int) := spec_l2Kid.l0 k a1 a2 (wrap64 (a1 + 1)) l0_0
theorem spec_l2Kid.mono_l : ∀ k, (∀ y0 y1 y2 y3, LeO (spec_l2Kid.l0 k y0 y1 y2 y3) (spec_l2Kid.l0 (k + 1) y0 y1 y2 y3))
 | 0 => fun _ _ _ _ r h => by simp [spec_l2Kid.l0] at h
 | k + 1 => by
  have ih0 := spec_l2Kid.mono_l k
  ·
   intro y0 y1 y2 y3
   unfold spec_l2Kid.l0
   repeat' first
   | (with_reducible exact ih0 _ _ _ _)
   | (with_reducible exact LeO.refl _)
   | (with_reducible exact LeO.none _)
   | (with_reducible refine LeO.ite ?_ ?_)
   | (with_reducible refine LeO.bind ?_ (fun _ => ?_))
   | exact ih0 _ _ _ _
   | exact LeO.none _
   | refine LeO.ite ?_ ?_
   | refine LeO.bind ?_ (fun _ => ?_)
theorem spec_l2Kid.mono : ∀ a0 a1 a2 k, LeO (spec_l2Kid.f k a0 a1 a2) (spec_l2Kid.f (k + 1) a0 a1 a2) := by
 intro a0 a1 a2 k
 have ih0 := spec_l2Kid.mono_l k
 unfold spec_l2Kid.f
 repeat' first
   | (with_reducible exact ih0 _ _ _ _)
   | (with_reducible exact LeO.refl _)
   | (with_reducible exact LeO.none _)
   | (with_reducible refine LeO.ite ?_ ?_)
   | (with_reducible refine LeO.bind ?_ (fun _ => ?_))
   | exact ih0 _ _ _ _
   | exact LeO.none _
   | refine LeO.ite ?_ ?_
   | refine LeO.bind ?_ (fun _ => ?_)
set_option maxHeartbeats 8000000 in
set_option maxRecDepth 100000 in
theorem spec_l2Kid.calls (k : Nat) (A0_0 : Option Addr) (c0_0 : Nat) (l0_0 : List (S80)) (a1 : Int) (a2 : Int) (r : Int) (w : World) (hr0_0 : Kd.C k80 w A0_0 l0_0.length l0_0) (hc0_0 : l0_0.length ≤ c0_0) (h : spec_l2Kid.f k l0_0 a1 a2 = some r) :
  Calls Try.prog 117 #[.agg #[.slice A0_0 l0_0.length c0_0], .int .i64 a1, .int .i64 a2] w fun e w' => e = .returned (.int .i64 r) ∧ Below w.heap.size w w' := by
 have hu31 := Try.underlying31
 have HR0_0 := aM_ hr0_0
 have HC0_0 := aM_ hc0_0
 clear hr0_0 hc0_0
 have HB := aM_ (Below.refl w.heap.size w)
 have H : (spec_l2Kid.l0 k a1 a2 (wrap64 (a1 + 1)) l0_0) = some r := h
 clear h
 have H' := aM_ H
 clear H
 go_enter Try.func117, Try.ntmps117
 go_wp2_with (first | ((with_reducible refine gate_dst (N := 3) rfl ?_); refine box_event ?hg (N := 3) ?hd (cs := #[.slice A0_0 l0_0.length c0_0]) (t := 31) ?hr ?_; (case hd => rfl); (case hg => rfl); (case hr => first | (go_simp; done) | (go_simp; rfl)); intro gb616 hg w4 hbox hb; have BK616 := aM_ (hbox); have GW616 := aM_ ((by rw [hg]; exact (below_size HB.out) : w.heap.size ≤ gb616)); have GE616 := GW616; replace HB := aM_ (below_step HB.out hb); clear hb hbox hg))
 go_loopg [7] k (fun kq v7 w' => ∃ (x7_1 : Int), v7 = .int .i64 x7_1 ∧ Aside0 (spec_l2Kid.l0 kq a1 a2 x7_1 l0_0 = some r) ∧ Aside0 (kq ≤ k) ∧ Aside0 (w'.heap[gb616]? = some (.cells #[(.slice A0_0 l0_0.length c0_0)] 31 (0, 0))) ∧ Aside0 (Below w.heap.size w w'))
 case atStart => exact ⟨(wrap64 (a1 + 1)), (by first | rfl | (simp; done) | (simp [*]; done)), H', ⟨Nat.le_refl _⟩, ⟨BK616.out⟩, ⟨HB.out⟩⟩
 case round =>
  clear H'
  try clear c1
  try clear p2
  obtain ⟨x7_1, rfl, HA, HK1, BK616, HB⟩ := hrel
  cases gk with
  | zero => exact absurd HA.out (by simp [spec_l2Kid.l0])
  | succ k1 =>
   have H := HA.out
   clear HA
   simp only [spec_l2Kid.l0] at H
   by_cases c5 : x7_1 < (l0_0.length : Int)
   ·
    rw [if_pos c5] at H
    have c5b0 := decide_eq_true c5
    clear c5
    by_cases c6 : 0 ≤ x7_1
    ·
     rw [if_pos c6] at H
     have c6b0 := decide_eq_true c6
     clear c6
     by_cases c7 : ((rd_T80 l0_0 x7_1).f1) = a1
     ·
      rw [if_pos c7] at H
      have c7b0 : (((rd_T80 l0_0 x7_1).f1) == a1) = true := beq_iff_eq.mpr c7
      have c7b1 : (((rd_T80 l0_0 x7_1).f1) != a1) = false := bne_eq_false_iff_eq.mpr c7
      clear c7
      by_cases c8 : ((rd_T80 l0_0 x7_1).f0) = a2
      ·
       rw [if_pos c8] at H
       have c8b0 : (((rd_T80 l0_0 x7_1).f0) == a2) = true := beq_iff_eq.mpr c8
       have c8b1 : (((rd_T80 l0_0 x7_1).f0) != a2) = false := bne_eq_false_iff_eq.mpr c8
       clear c8
       obtain rfl := Option.some.inj H
       have hcz9_0 : wr.cell? ⟨gb616, 0, none⟩ = some (.slice A0_0 l0_0.length c0_0) := (blk_cell BK616.out 0).trans rfl
       have hfz9_0 := blk_frozen BK616.out 0
       have p617 : 0 ≤ (x7_1 : Int) := of_decide_eq_true (by first | (with_reducible assumption) | assumption)
       have q617 : x7_1 < (l0_0.length : Int) := of_decide_eq_true (by first | (with_reducible assumption) | assumption)
       obtain ⟨ad617, e617, hx617_0, hx617_1, hx617_2⟩ := at_T80 HR0_0.out x7_1 p617 q617
       cases e617
       replace hx617_0 := (HB.out.cell (World.block_lt_of_cell? w _ hx617_0)).trans hx617_0
       replace hx617_1 := (HB.out.cell (World.block_lt_of_cell? w _ hx617_1)).trans hx617_1
       replace hx617_2 := (HB.out.cell (World.block_lt_of_cell? w _ hx617_2)).trans hx617_2
       replace p617 := eq_true p617
       replace q617 := eq_true q617
       have p618 : 0 ≤ (x7_1 : Int) := of_decide_eq_true (by first | (with_reducible assumption) | assumption)
       have q618 : x7_1 < (l0_0.length : Int) := of_decide_eq_true (by first | (with_reducible assumption) | assumption)
       obtain ⟨ad618, e618, hx618_0, hx618_1, hx618_2⟩ := at_T80 HR0_0.out x7_1 p618 q618
       obtain rfl : ad617 = ad618 := (by injection e618)
       replace hx618_0 := (HB.out.cell (World.block_lt_of_cell? w _ hx618_0)).trans hx618_0
       replace hx618_1 := (HB.out.cell (World.block_lt_of_cell? w _ hx618_1)).trans hx618_1
       replace hx618_2 := (HB.out.cell (World.block_lt_of_cell? w _ hx618_2)).trans hx618_2
       replace p618 := eq_true p618
       replace q618 := eq_true q618
       go_wp2
       go_ret
       exact ⟨by first | rfl | (simp [errW_none, errW_some] <;> rfl) | (simp [*, errW_none, errW_some] <;> rfl), by exact HB.out⟩
      ·
       rw [if_neg c8] at H
       have c8b0 : (((rd_T80 l0_0 x7_1).f0) == a2) = false := beq_eq_false_iff_ne.mpr c8
       have c8b1 : (((rd_T80 l0_0 x7_1).f0) != a2) = true := bne_iff_ne.mpr c8
       have H' := aM_ H
       clear H
       have hcz10_0 : wr.cell? ⟨gb616, 0, none⟩ = some (.slice A0_0 l0_0.length c0_0) := (blk_cell BK616.out 0).trans rfl
       have hfz10_0 := blk_frozen BK616.out 0
       have p617 : 0 ≤ (x7_1 : Int) := of_decide_eq_true (by first | (with_reducible assumption) | assumption)
       have q617 : x7_1 < (l0_0.length : Int) := of_decide_eq_true (by first | (with_reducible assumption) | assumption)
       obtain ⟨ad617, e617, hx617_0, hx617_1, hx617_2⟩ := at_T80 HR0_0.out x7_1 p617 q617
       cases e617
       replace hx617_0 := (HB.out.cell (World.block_lt_of_cell? w _ hx617_0)).trans hx617_0
       replace hx617_1 := (HB.out.cell (World.block_lt_of_cell? w _ hx617_1)).trans hx617_1
       replace hx617_2 := (HB.out.cell (World.block_lt_of_cell? w _ hx617_2)).trans hx617_2
       replace p617 := eq_true p617
       replace q617 := eq_true q617
       have p618 : 0 ≤ (x7_1 : Int) := of_decide_eq_true (by first | (with_reducible assumption) | assumption)
       have q618 : x7_1 < (l0_0.length : Int) := of_decide_eq_true (by first | (with_reducible assumption) | assumption)
       obtain ⟨ad618, e618, hx618_0, hx618_1, hx618_2⟩ := at_T80 HR0_0.out x7_1 p618 q618
       obtain rfl : ad617 = ad618 := (by injection e618)
       replace hx618_0 := (HB.out.cell (World.block_lt_of_cell? w _ hx618_0)).trans hx618_0
       replace hx618_1 := (HB.out.cell (World.block_lt_of_cell? w _ hx618_1)).trans hx618_1
       replace hx618_2 := (HB.out.cell (World.block_lt_of_cell? w _ hx618_2)).trans hx618_2
       replace p618 := eq_true p618
       replace q618 := eq_true q618
       go_wp2
       go_roundg k1
       case measure => have := HK1.out; omega
       case rel => exact ⟨(wrap64 (x7_1 + 1)), (by first | rfl | (simp; done) | (simp [*]; done)), H', ⟨by have := HK1.out; omega⟩, ⟨BK616.out⟩, ⟨HB.out⟩⟩
     ·
      rw [if_neg c7] at H
      have c7b0 : (((rd_T80 l0_0 x7_1).f1) == a1) = false := beq_eq_false_iff_ne.mpr c7
      have c7b1 : (((rd_T80 l0_0 x7_1).f1) != a1) = true := bne_iff_ne.mpr c7
      have H' := aM_ H
      clear H
      have hcz11_0 : wr.cell? ⟨gb616, 0, none⟩ = some (.slice A0_0 l0_0.length c0_0) := (blk_cell BK616.out 0).trans rfl
      have hfz11_0 := blk_frozen BK616.out 0
      have p617 : 0 ≤ (x7_1 : Int) := of_decide_eq_true (by first | (with_reducible assumption) | assumption)
      have q617 : x7_1 < (l0_0.length : Int) := of_decide_eq_true (by first | (with_reducible assumption) | assumption)
      obtain ⟨ad617, e617, hx617_0, hx617_1, hx617_2⟩ := at_T80 HR0_0.out x7_1 p617 q617
      cases e617
      replace hx617_0 := (HB.out.cell (World.block_lt_of_cell? w _ hx617_0)).trans hx617_0
      replace hx617_1 := (HB.out.cell (World.block_lt_of_cell? w _ hx617_1)).trans hx617_1
      replace hx617_2 := (HB.out.cell (World.block_lt_of_cell? w _ hx617_2)).trans hx617_2
      replace p617 := eq_true p617
      replace q617 := eq_true q617
      go_wp2
      go_roundg k1
      case measure => have := HK1.out; omega
      case rel => exact ⟨(wrap64 (x7_1 + 1)), (by first | rfl | (simp; done) | (simp [*]; done)), H', ⟨by have := HK1.out; omega⟩, ⟨BK616.out⟩, ⟨HB.out⟩⟩
    ·
     rw [if_neg c6] at H
     exact absurd H (by simp)
   ·
    rw [if_neg c5] at H
    have c5b0 := decide_eq_false c5
    clear c5
    obtain rfl := Option.some.inj H
    have hcz12_0 : wr.cell? ⟨gb616, 0, none⟩ = some (.slice A0_0 l0_0.length c0_0) := (blk_cell BK616.out 0).trans rfl
    have hfz12_0 := blk_frozen BK616.out 0
    go_wp2
    go_ret
    exact ⟨by first | rfl | (simp [errW_none, errW_some] <;> rfl) | (simp [*, errW_none, errW_some] <;> rfl), by exact HB.out⟩
def spec_l2Node.l0 : Nat → ByteArray → Int → Int → List (S80) → Option (Int)
 | 0, _, _, _, _ => none
 | k + 1, x1, x5, x6, x620000 => if x6 < (x1.size : Int) then (if x5 ≥ 0 then (if 0 ≤ x6 then ((spec_l2Kid.f k x620000 x5 (wrap64 ((wrap64 (bt x1 x6)) - 97))).bind fun t620 => (spec_l2Node.l0 k x1 t620 (wrap64 (x6 + 1)) x620000)) else (none)) else (some x5)) else (some x5)
def spec_l2Node.f (k : Nat) (l0_0 : List (S80)) (a1 : ByteArray) : Option (Int) := spec_l2Node.l0 k a1 0 0 l0_0
theorem spec_l2Node.mono_l : ∀ k, (∀ y0 y1 y2 y3, LeO (spec_l2Node.l0 k y0 y1 y2 y3) (spec_l2Node.l0 (k + 1) y0 y1 y2 y3))
 | 0 => fun _ _ _ _ r h => by simp [spec_l2Node.l0] at h
 | k + 1 => by
  have ih0 := spec_l2Node.mono_l k
  ·
   intro y0 y1 y2 y3
   unfold spec_l2Node.l0
   repeat' first
   | (with_reducible exact ih0 _ _ _ _)
   | (with_reducible exact spec_l2Kid.mono _ _ _ _)
   | (with_reducible exact LeO.refl _)
   | (with_reducible exact LeO.none _)
   | (with_reducible refine LeO.ite ?_ ?_)
   | (with_reducible refine LeO.bind ?_ (fun _ => ?_))
   | exact ih0 _ _ _ _
   | exact spec_l2Kid.mono _ _ _ _
   | exact LeO.none _
   | refine LeO.ite ?_ ?_
   | refine LeO.bind ?_ (fun _ => ?_)
theorem spec_l2Node.mono : ∀ a0 a1 k, LeO (spec_l2Node.f k a0 a1) (spec_l2Node.f (k + 1) a0 a1) := by
 intro a0 a1 k
 have ih0 := spec_l2Node.mono_l k
 unfold spec_l2Node.f
 repeat' first
   | (with_reducible exact ih0 _ _ _ _)
   | (with_reducible exact spec_l2Kid.mono _ _ _ _)
   | (with_reducible exact LeO.refl _)
   | (with_reducible exact LeO.none _)
   | (with_reducible refine LeO.ite ?_ ?_)
   | (with_reducible refine LeO.bind ?_ (fun _ => ?_))
   | exact ih0 _ _ _ _
   | exact spec_l2Kid.mono _ _ _ _
   | exact LeO.none _
   | refine LeO.ite ?_ ?_
   | refine LeO.bind ?_ (fun _ => ?_)
def spec_l2Node.T5 : Bool × List (List Nat × List Nat) := (true, [([], []), ([], []), ([], []), ([], []), ([2, 3], [2, 3]), ([4], [4]), ([5], [5]), ([0, 1, 6], [0, 1, 6]), ([7, 7, 0, 1, 2, 3, 4, 5, 6, 7], [1, 7])])
def spec_l2Node.B5 : List Nat := [0, 0, 0, 0, 12, 28, 60, 127, 255]
theorem spec_l2Node.tab5 : rtab .any (opsOf Try.f98 5) = spec_l2Node.T5 := by kernel_rfl
theorem spec_l2Node.bits5 : waitsOk spec_l2Node.T5.2 spec_l2Node.B5 = true := by kernel_rfl
set_option maxHeartbeats 8000000 in
set_option maxRecDepth 100000 in
theorem spec_l2Node.calls (k : Nat) (A0_0 : Option Addr) (c0_0 : Nat) (l0_0 : List (S80)) (a1 : ByteArray) (r : Int) (w : World) (hr0_0 : Kd.C k80 w A0_0 l0_0.length l0_0) (hc0_0 : l0_0.length ≤ c0_0) (h : spec_l2Node.f k l0_0 a1 = some r) :
  Calls Try.prog 98 #[.agg #[.slice A0_0 l0_0.length c0_0], .string a1] w fun e w' => e = .returned (.int .i64 r) ∧ Below w.heap.size w w' := by
 have hu31 := Try.underlying31
 have HR0_0 := aM_ hr0_0
 have HC0_0 := aM_ hc0_0
 clear hr0_0 hc0_0
 have HB := aM_ (Below.refl w.heap.size w)
 have H : (spec_l2Node.l0 k a1 0 0 l0_0) = some r := h
 clear h
 have H' := aM_ H
 clear H
 go_enter Try.func98, Try.ntmps98
 go_wp2_with (first | ((with_reducible refine gate_dst (N := 2) rfl ?_); refine box_event ?hg (N := 2) ?hd (cs := #[.slice A0_0 l0_0.length c0_0]) (t := 31) ?hr ?_; (case hd => rfl); (case hg => rfl); (case hr => first | (go_simp; done) | (go_simp; rfl)); intro gb619 hg w3 hbox hb; have BK619 := aM_ (hbox); have GW619 := aM_ ((by rw [hg]; exact (below_size HB.out) : w.heap.size ≤ gb619)); have GE619 := GW619; replace HB := aM_ (below_step HB.out hb); clear hb hbox hg))
 go_loopg [5, 6] k (fun kq v5 v6 w' => ∃ (x5_1 : Int) (x6_1 : Int), v5 = .int .i64 x5_1 ∧ v6 = .int .i64 x6_1 ∧ Aside0 (spec_l2Node.l0 kq a1 x5_1 x6_1 l0_0 = some r) ∧ Aside0 (kq ≤ k) ∧ Aside0 (w'.heap[gb619]? = some (.cells #[(.slice A0_0 l0_0.length c0_0)] 31 (0, 0))) ∧ Aside0 (Below w.heap.size w w'))
 case atStart => exact ⟨(0), (0), (by first | rfl | (simp; done) | (simp [*]; done)), (by first | rfl | (simp; done) | (simp [*]; done)), H', ⟨Nat.le_refl _⟩, ⟨BK619.out⟩, ⟨HB.out⟩⟩
 case round =>
  clear H'
  try clear p2
  obtain ⟨x5_1, x6_1, rfl, rfl, HA, HK1, BK619, HB⟩ := hrel
  cases gk with
  | zero => exact absurd HA.out (by simp [spec_l2Node.l0])
  | succ k1 =>
   have H := HA.out
   clear HA
   simp only [spec_l2Node.l0] at H
   by_cases c4 : x6_1 < (a1.size : Int)
   ·
    rw [if_pos c4] at H
    have c4b0 := decide_eq_true c4
    clear c4
    by_cases c5 : x5_1 ≥ 0
    ·
     rw [if_pos c5] at H
     have c5b0 := decide_eq_true c5
     clear c5
     by_cases c6 : 0 ≤ x6_1
     ·
      rw [if_pos c6] at H
      have c6b0 := decide_eq_true c6
      clear c6
      replace H := Option.bind_eq_some_iff.mp H
      obtain ⟨t620, A80, H⟩ := H
      try dsimp only at H
      have A8 := aM_ A80
      clear A80
      have H' := aM_ H
      clear H
      try go_wp2
      have n0_ := aM_ (blk_drew BK619.out)
      have n1_ := aM_ (below_drew1 HB.out)
      clear BK619
      clear HB
      have BK619 := n0_
      have HB := n1_
      clear n0_ n1_
      have p7 : 0 ≤ (x6_1 : Int) := of_decide_eq_true (by first | (with_reducible assumption) | assumption)
      have q7 : x6_1 < (a1.size : Int) := of_decide_eq_true (by first | (with_reducible assumption) | assumption)
      have hx7 := bt_at a1 x6_1
      replace p7 := eq_true p7
      replace q7 := eq_true q7
      refine start_ (n := 9) (S := fun w' => w'.cell? ⟨gb619, 0, none⟩ = some (.slice A0_0 l0_0.length c0_0)) (ds := []) #[fy, fy, fy, fy, fy, fy, fy, fy, fy] (by kernel_rfl) rfl rfl ((blk_cell BK619.out 0).trans rfl) (fun hHeld => ?_); refine with_tabW spec_l2Node.tab5 spec_l2Node.bits5 (fun HT_ HW_ => ?_)
      generalize wr.drew = w9 at BK619 HB hHeld ⊢
      refine pure_ (i := 1) (N := some 18) (v := ?_) (a' := ?_) #[fy, ty, fy, fy, fy, fy, fy, fy, fy] rfl rfl (any_of HT_.out (by kernel_rfl)) (fun _ _ _ h => h) (Or.inl ⟨by rfl, ?_⟩) ?_ ?_; rotate_left; (intro w'; go_simp; with_reducible rfl); rotate_left; (simp only [Act.put, sA_, sB_, sC_, i64_w, i32_w]; rfl)
      refine pure_ (i := 2) (N := some 19) (v := ?_) (a' := ?_) #[fy, ty, ty, fy, fy, fy, fy, fy, fy] rfl rfl (any_of HT_.out (by kernel_rfl)) (fun _ _ _ h => h) (Or.inl ⟨by rfl, ?_⟩) ?_ ?_; rotate_left; (intro w'; go_simp; with_reducible rfl); rotate_left; (simp only [Act.put, sA_, sB_, sC_, i64_w, i32_w]; rfl)
      refine pure_ (i := 3) (N := some 20) (v := ?_) (a' := ?_) #[fy, ty, ty, ty, fy, fy, fy, fy, fy] rfl rfl (any_of HT_.out (by kernel_rfl)) (fun _ _ _ h => h) (Or.inl ⟨by rfl, ?_⟩) ?_ ?_; rotate_left; (intro w'; go_simp; with_reducible rfl); rotate_left; (simp only [Act.put, sA_, sB_, sC_, i64_w, i32_w]; rfl)
      refine take_ (i := 0) (N := some 17) (v := ?_) (a' := ?_) #[ty, ty, ty, ty, fy, fy, fy, fy, fy] rfl rfl (take_ofW HT_.out HW_.out (by kernel_rfl)) (fun _ _ _ h => h) (Or.inl ⟨by rfl, ?_⟩) hHeld ?_ ?_; rotate_left; (intro w' s0; go_simp; with_reducible rfl); rotate_left; (simp only [Act.put, sA_, sB_, sC_, i64_w, i32_w]; rfl)
      refine take_ (i := 4) (N := some 21) (v := ?_) (a' := ?_) #[ty, ty, ty, ty, ty, fy, fy, fy, fy] rfl rfl (take_ofW HT_.out HW_.out (by kernel_rfl)) (fun _ _ _ h => h) (Or.inl ⟨by rfl, ?_⟩) hHeld ?_ ?_; rotate_left; (intro w' s0; go_simp; with_reducible rfl); rotate_left; (simp only [Act.put, sA_, sB_, sC_, i64_w, i32_w]; rfl)
      refine pure_ (i := 5) (N := some 22) (v := ?_) (a' := ?_) #[ty, ty, ty, ty, ty, ty, fy, fy, fy] rfl rfl (any_of HT_.out (by kernel_rfl)) (fun _ _ _ h => h) (Or.inl ⟨by rfl, ?_⟩) ?_ ?_; rotate_left; (intro w'; go_simp; with_reducible rfl); rotate_left; (simp only [Act.put, sA_, sB_, sC_, i64_w, i32_w]; rfl)
      refine pure_ (i := 6) (N := some 23) (v := ?_) (a' := ?_) #[ty, ty, ty, ty, ty, ty, ty, fy, fy] rfl rfl (any_of HT_.out (by kernel_rfl)) (fun _ _ _ h => h) (Or.inl ⟨by rfl, ?_⟩) ?_ ?_; rotate_left; (intro w'; go_simp; with_reducible rfl); rotate_left; (simp only [Act.put, sA_, sB_, sC_, i64_w, i32_w]; rfl)
      refine one_ (i := 7) (N := some 24) #[ty, ty, ty, ty, ty, ty, ty, ty, fy] rfl rfl (one_of HT_.out (by kernel_rfl)) (by decide) (fun K hK => ?_)
      refine goes_ Try.func117 (by kernel_rfl) rfl #[.agg #[.slice A0_0 l0_0.length c0_0], .int .i64 x5_1, .int .i64 (wrap64 ((wrap64 (bt a1 x6_1)) - 97))] (by rfl) rfl rfl (by (try simp only [sD_, sE_, sF_]); first | done | rfl | (simp only [sG_, sH_]; rfl)) ?_
      with_reducible refine (spec_l2Kid.calls k1 _ _ l0_0 x5_1 (wrap64 ((wrap64 (bt a1 x6_1)) - 97)) t620 _ ?side1 ?side2 A8.out).mono ?_
      (case side1 => repeat (first | exact (Kd.C_below HR0_0.out HB.out) | (with_reducible refine Kd.C_alloc ?_ _) | (with_reducible refine Kd.C_drewN ?_ _) | (with_reducible refine Kd.C_drew ?_)))
      (case side2 => exact HC0_0.out)
      rintro e w10 ⟨rfl, hb⟩
      refine ⟨_, rfl, ?_⟩
      have n0_ := aM_ (blk_below BK619.out hb)
      have n1_ := aM_ (below_step HB.out hb)
      clear BK619
      clear HB
      have BK619 := n0_
      have HB := n1_
      clear n0_ n1_
      (try clear hb)
      (try clear hb2)
      (try clear hk)
      (try clear hi)
      refine hK.out _ _ ((blk_cell BK619.out 0).trans rfl) (fun hHeld => ?_)
      clear hK K
      refine norm_ (a' := ?_) ?_ ?_; rotate_left; (show Act.put _ (some 24) _ = _; simp only [Act.put, sA_, sB_, sC_, i64_w, i32_w]; rfl)
      refine pure_ (i := 8) (N := some 5) (v := ?_) (a' := ?_) #[ty, ty, ty, ty, ty, ty, ty, ty, ty] rfl rfl (any_of HT_.out (by kernel_rfl)) (fun _ _ _ h => h) (Or.inl ⟨by rfl, ?_⟩) ?_ ?_; rotate_left; (intro w'; go_simp; with_reducible rfl); rotate_left; (simp only [Act.put, sA_, sB_, sC_, i64_w, i32_w]; rfl)
      refine done_ (done_of HT_.out (by kernel_rfl)) ?_
      try go_wp2
      go_roundg k1
      case measure => have := HK1.out; omega
      case rel => exact ⟨(t620), (wrap64 (x6_1 + 1)), (by first | rfl | (simp; done) | (simp [*]; done)), (by first | rfl | (simp; done) | (simp [*]; done)), H', ⟨by have := HK1.out; omega⟩, ⟨BK619.out⟩, ⟨HB.out⟩⟩
     ·
      rw [if_neg c6] at H
      exact absurd H (by simp)
    ·
     rw [if_neg c5] at H
     have c5b0 := decide_eq_false c5
     clear c5
     obtain rfl := Option.some.inj H
     go_wp2
     go_ret
     exact ⟨by first | rfl | (simp [errW_none, errW_some] <;> rfl) | (simp [*, errW_none, errW_some] <;> rfl), by exact HB.out⟩
   ·
    rw [if_neg c4] at H
    have c4b0 := decide_eq_false c4
    clear c4
    obtain rfl := Option.some.inj H
    go_wp2
    go_ret
    exact ⟨by first | rfl | (simp [errW_none, errW_some] <;> rfl) | (simp [*, errW_none, errW_some] <;> rfl), by exact HB.out⟩
end Go.Proofs.Ytgagmodkjmegeaa.P
namespace Go.Proofs.Ytgagmodkjmegeaa.L
open Go.RowKit Go.Proofs.Ytgagmodkjmegeaa.P Go.Proofs.Ytgagmodkjmegeaa.M Go.Proofs.YtgagmodkjmegeaaW.PrintWords Go.Proofs.YtgagmodkjmegeaaW.PrintLast Go.Proofs.YtgagmodkjmegeaaW.PrintMore
set_option linter.unusedVariables false
theorem f0_eq {P : List Txt} (ws : List Txt) (hW : ∀ p ∈ P, wordL p = true) {j : Nat} (hj : j < P.length) (hne : P.getD j [] ≠ []) : (rd_T80 (trN P ws) (j : Int)).f0 = (((P.getD j []).getD ((P.getD j []).length - 1) 0).toNat : Int) - 97 := by
 rw [rdN P ws j hj]
 unfold mkN ndL
 rw [if_neg hne]
 exact (ltrOf_bd (hW _ (getD_mem hj)) hne).1
theorem node_iff {P : List Txt} (ws : List Txt) (hA : Asc P) (hC : Clo P) (hW : ∀ p ∈ P, wordL p = true) {i j : Nat} (hi : i < P.length) (hj : j < P.length) (c : UInt8) :
  ((rd_T80 (trN P ws) (j : Int)).f1 = (i : Int) ∧ (rd_T80 (trN P ws) (j : Int)).f0 = (c.toNat : Int) - 97) ↔ P.getD j [] = P.getD i [] ++ [c] := by
 rw [f1_iff ws hA hC hi hj]
 constructor
 ·
  rintro ⟨⟨h1, h2⟩, h3⟩
  rw [f0_eq ws hW hj h1] at h3
  have h4 : (P.getD j []).getD ((P.getD j []).length - 1) 0 = c := UInt8.toNat_inj.1 (by omega)
  rw [← h2, ← h4, dropLast_getD _ h1]
 ·
  intro h
  have h1 : P.getD j [] ≠ [] := by rw [h]; simp
  have h2 : (P.getD j []).dropLast = P.getD i [] := by rw [h]; simp
  refine ⟨⟨h1, h2⟩, ?_⟩
  rw [f0_eq ws hW hj h1, h]
  simp
theorem kid_loop {P : List Txt} (ws : List Txt) (hA : Asc P) (hC : Clo P) (hW : ∀ p ∈ P, wordL p = true) (hP : P.length ≤ 1000000) {i : Nat} (hi : i < P.length) (c : UInt8) : ∀ d j, j + d = P.length → (∀ m, m < j → P.getD m [] ≠ P.getD i [] ++ [c]) →
  Ev (fun k => spec_l2Kid.l0 k (i : Int) ((c.toNat : Int) - 97) (j : Int) (trN P ws)) (if P.getD i [] ++ [c] ∈ P then (placeL P (P.getD i [] ++ [c]) : Int) else -1) := by
 intro d
 induction d with
 | zero =>
  intro j h1 h2
  rw [if_neg fun hm => ?_]
  ·
   exact Ev.step (fun k => spec_l2Kid.l0.eq_2 ..) (Ev.ifF (by rw [trN_length]; omega) (Ev.now _))
  ·
   obtain ⟨z1, z2⟩ := placeL_mem hm
   exact h2 _ (by omega) z2
 | succ d ih =>
  intro j h1 h2
  have hj : j < P.length := by omega
  have hn := node_iff ws hA hC hW hi hj c
  refine Ev.step (fun k => spec_l2Kid.l0.eq_2 ..) (Ev.ifT (by rw [trN_length]; omega) (Ev.ifT (by omega) ?_))
  by_cases e : P.getD j [] = P.getD i [] ++ [c]
  ·
   obtain ⟨e1, e2⟩ := hn.2 e
   rw [if_pos (e ▸ getD_mem hj), ← e, placeL_get hA hj]
   exact Ev.ifT e1 (Ev.ifT e2 (Ev.now _))
  ·
   have hnext := ih (j + 1) (by omega) (fun m hm => by
    by_cases hmj : m = j
    ·
     rw [hmj]; exact e
    ·
     exact h2 m (by omega))
   rw [wrap64_succ j (by omega)]
   by_cases e1 : (rd_T80 (trN P ws) (j : Int)).f1 = (i : Int)
   ·
    exact Ev.ifT e1 (Ev.ifF (fun e2 => e (hn.1 ⟨e1, e2⟩)) hnext)
   ·
    exact Ev.ifF e1 hnext
theorem kid_ev {P : List Txt} (ws : List Txt) (hA : Asc P) (hC : Clo P) (hW : ∀ p ∈ P, wordL p = true) (hP : P.length ≤ 1000000) {i : Nat} (hi : i < P.length) (c : UInt8) :
  Ev (fun k => spec_l2Kid.f k (trN P ws) (i : Int) ((c.toNat : Int) - 97)) (if P.getD i [] ++ [c] ∈ P then (placeL P (P.getD i [] ++ [c]) : Int) else -1) := by
 unfold spec_l2Kid.f
 rw [wrap64_succ i (by omega)]
 refine kid_loop ws hA hC hW hP hi c (P.length - (i + 1)) (i + 1) (by omega) fun m hm e => ?_
 have h1 := txt_lt_snoc (P.getD i []) c
 rw [← e] at h1
 have := asc_get_lt hA hi (by omega) h1
 omega
theorem node_loop {P : List Txt} (ws : List Txt) (hA : Asc P) (hC : Clo P) (hW : ∀ p ∈ P, wordL p = true) (hP : P.length ≤ 1000000) (w : Txt) (hw : w.length ≤ 1000000) : ∀ d n, n + d = w.length → w.take n ∈ P →
  Ev (fun k => spec_l2Node.l0 k (B w) ((placeL P (w.take n) : Nat) : Int) (n : Int) (trN P ws)) (if w ∈ P then (placeL P w : Int) else -1) := by
 intro d
 induction d with
 | zero =>
  intro n h1 h2
  rw [List.take_of_length_le (by omega)] at h2 ⊢
  rw [if_pos h2]
  exact Ev.step (fun k => spec_l2Node.l0.eq_2 ..) (Ev.ifF (by rw [size_B]; omega) (Ev.now _))
 | succ d ih =>
  intro n h1 h2
  have hn : n < w.length := by omega
  obtain ⟨z1, z2⟩ := placeL_mem h2
  refine Ev.step (fun k => spec_l2Node.l0.eq_2 ..) (Ev.ifT (by rw [size_B]; omega) (Ev.ifT (by omega) (Ev.ifT (by omega) ?_)))
  rw [bt_B w n hn, wrap64_id (x := ((w.getD n 0).toNat : Int)) (by omega) (by have := (w.getD n 0).toNat_lt; omega), wrap64_id (by omega) (by have := (w.getD n 0).toNat_lt; omega), wrap64_succ n (by omega)]
  refine Ev.bind (kid_ev ws hA hC hW hP z1 (w.getD n 0)) ?_
  rw [z2, ← take_succ_getD 0 hn]
  by_cases hm : w.take (n + 1) ∈ P
  ·
   rw [if_pos hm]
   exact ih (n + 1) (by omega) hm
  ·
   rw [if_neg hm, if_neg]
   ·
    by_cases he : n + 1 < w.length
    ·
     exact Ev.step (fun k => spec_l2Node.l0.eq_2 ..) (Ev.ifT (by rw [size_B]; omega) (Ev.ifF (by omega) (Ev.now _)))
    ·
     exact Ev.step (fun k => spec_l2Node.l0.eq_2 ..) (Ev.ifF (by rw [size_B]; omega) (Ev.now _))
   ·
    intro hwP
    have : ∀ m, m ≤ w.length → w.take (w.length - m) ∈ P := by
     intro m
     induction m with
     | zero => intro _; rw [Nat.sub_zero, List.take_of_length_le (Nat.le_refl _)]; exact hwP
     | succ m ihm =>
      intro hml
      have h5 := ihm (by omega)
      have hne : w.take (w.length - m) ≠ [] := fun e => by
       have := congrArg List.length e
       rw [List.length_take, List.length_nil] at this; omega
      have h6 := hC.2 _ h5 hne
      rw [List.dropLast_eq_take, List.length_take, Nat.min_eq_left (show w.length - m ≤ w.length by omega), List.take_take, Nat.min_eq_left (show w.length - m - 1 ≤ w.length - m by omega)] at h6
      rw [show w.length - (m + 1) = w.length - m - 1 from by omega]
      exact h6
    exact hm (by have := this (w.length - (n + 1)) (by omega); rwa [show w.length - (w.length - (n + 1)) = n + 1 from by omega] at this)
theorem l2Node_ev {P : List Txt} (ws : List Txt) (hA : Asc P) (hC : Clo P) (hW : ∀ p ∈ P, wordL p = true) (hP : P.length ≤ 1000000) (w : Txt) (hw : w.length ≤ 1000000) : Ev (fun k => spec_l2Node.f k (trN P ws) (B w)) (if w ∈ P then (placeL P w : Int) else -1) := by
 obtain ⟨z1, z2⟩ := clo_zero hA hC
 have h0 : placeL P [] = 0 := by have := placeL_get hA z1; rwa [z2] at this
 have := node_loop ws hA hC hW hP w hw w.length 0 (by omega) (by rw [List.take_zero]; exact hC.1)
 rw [List.take_zero, h0] at this
 exact this
end Go.Proofs.Ytgagmodkjmegeaa.L
namespace Go.Proofs.Ytgagmodkjmegeaa.P
open Go.RowKit Go.Proofs.YtgagmodkjmegeaaW.PrintWords Go.Proofs.YtgagmodkjmegeaaW.PrintLast Go.Proofs.YtgagmodkjmegeaaW.PrintMore
open List renaming setIfInBounds_toArray → sA_, set_cons_zero → sB_, set_cons_succ → sC_, map_toArray → sD_, map_cons → sE_, map_nil → sF_, length_drop → sG_, length_take → sH_
open Bool renaming true → ty, false → fy
open Aside0 renaming mk → aM_
attribute [local go_sem] max2_int min2_int max_two min_two max_three min_three max_four min_four
set_option linter.unusedVariables false
set_option linter.unusedSimpArgs false
mutual
def spec_l9Descent.j0 : Nat → Int → Bool → List (S80) → Option (Int × Int)
 | 0, _, _, _ => none
 | k + 1, x5, x20, x635000 => if x20 = true then (some (0, 1)) else (spec_l9Descent.l0 k x5 1 x635000)
def spec_l9Descent.l0 : Nat → Int → Int → List (S80) → Option (Int × Int)
 | 0, _, _, _ => none
 | k + 1, x5, x6, x635000 => if x5 ≥ 0 then ((spec_l9Choices.f k x635000 x5).bind fun t638 => (if 0 ≤ x5 then (if x5 < (x635000.length : Int) then (spec_l9Descent.l0 k ((rd_T80 x635000 x5).f1) (wrap64 (x6 * t638)) x635000) else (none)) else (none))) else (some (1, x6))
end
def spec_l9Descent.f (k : Nat) (l0_0 : List (S80)) (a1 : ByteArray) : Option (Int × Int) := (spec_l2Node.f k l0_0 a1).bind fun t636 => (if t636 < 0 then (spec_l9Descent.j0 k t636 true l0_0) else (if 0 ≤ t636 then (if t636 < (l0_0.length : Int) then (spec_l9Descent.j0 k t636 (!((rd_T80 l0_0 t636).f2)) l0_0) else (none)) else (none)))
theorem spec_l9Descent.mono_l : ∀ k, (∀ y0 y1 y2, LeO (spec_l9Descent.j0 k y0 y1 y2) (spec_l9Descent.j0 (k + 1) y0 y1 y2)) ∧ (∀ y0 y1 y2, LeO (spec_l9Descent.l0 k y0 y1 y2) (spec_l9Descent.l0 (k + 1) y0 y1 y2))
 | 0 => ⟨fun _ _ _ r h => by simp [spec_l9Descent.j0] at h, fun _ _ _ r h => by simp [spec_l9Descent.l0] at h⟩
 | k + 1 => by
  obtain ⟨ih0, ih1⟩ := spec_l9Descent.mono_l k
  refine ⟨?_, ?_⟩
  ·
   intro y0 y1 y2
   unfold spec_l9Descent.j0
   repeat' first
   | (with_reducible exact ih0 _ _ _)
   | (with_reducible exact ih1 _ _ _)
   | (with_reducible exact spec_l2Node.mono _ _ _)
   | (with_reducible exact spec_l9Choices.mono _ _ _)
   | (with_reducible exact LeO.refl _)
   | (with_reducible exact LeO.none _)
   | (with_reducible refine LeO.ite ?_ ?_)
   | (with_reducible refine LeO.bind ?_ (fun _ => ?_))
   | exact ih0 _ _ _
   | exact ih1 _ _ _
   | exact spec_l2Node.mono _ _ _
   | exact spec_l9Choices.mono _ _ _
   | exact LeO.none _
   | refine LeO.ite ?_ ?_
   | refine LeO.bind ?_ (fun _ => ?_)
  ·
   intro y0 y1 y2
   unfold spec_l9Descent.l0
   repeat' first
   | (with_reducible exact ih0 _ _ _)
   | (with_reducible exact ih1 _ _ _)
   | (with_reducible exact spec_l2Node.mono _ _ _)
   | (with_reducible exact spec_l9Choices.mono _ _ _)
   | (with_reducible exact LeO.refl _)
   | (with_reducible exact LeO.none _)
   | (with_reducible refine LeO.ite ?_ ?_)
   | (with_reducible refine LeO.bind ?_ (fun _ => ?_))
   | exact ih0 _ _ _
   | exact ih1 _ _ _
   | exact spec_l2Node.mono _ _ _
   | exact spec_l9Choices.mono _ _ _
   | exact LeO.none _
   | refine LeO.ite ?_ ?_
   | refine LeO.bind ?_ (fun _ => ?_)
theorem spec_l9Descent.mono : ∀ a0 a1 k, LeO (spec_l9Descent.f k a0 a1) (spec_l9Descent.f (k + 1) a0 a1) := by
 intro a0 a1 k
 obtain ⟨ih0, ih1⟩ := spec_l9Descent.mono_l k
 unfold spec_l9Descent.f
 repeat' first
   | (with_reducible exact ih0 _ _ _)
   | (with_reducible exact ih1 _ _ _)
   | (with_reducible exact spec_l2Node.mono _ _ _)
   | (with_reducible exact spec_l9Choices.mono _ _ _)
   | (with_reducible exact LeO.refl _)
   | (with_reducible exact LeO.none _)
   | (with_reducible refine LeO.ite ?_ ?_)
   | (with_reducible refine LeO.bind ?_ (fun _ => ?_))
   | exact ih0 _ _ _
   | exact ih1 _ _ _
   | exact spec_l2Node.mono _ _ _
   | exact spec_l9Choices.mono _ _ _
   | exact LeO.none _
   | refine LeO.ite ?_ ?_
   | refine LeO.bind ?_ (fun _ => ?_)
set_option maxHeartbeats 8000000 in
set_option maxRecDepth 100000 in
theorem spec_l9Descent.calls (k : Nat) (A0_0 : Option Addr) (c0_0 : Nat) (l0_0 : List (S80)) (a1 : ByteArray) (r1 : Int) (r2 : Int) (w : World) (hr0_0 : Kd.C k80 w A0_0 l0_0.length l0_0) (hc0_0 : l0_0.length ≤ c0_0) (h : spec_l9Descent.f k l0_0 a1 = some (r1, r2)) :
  Calls Try.prog 70 #[.agg #[.slice A0_0 l0_0.length c0_0], .string a1] w fun e w' => e = .returned (.agg #[.int .i64 r1, .int .i64 r2]) ∧ Below w.heap.size w w' := by
 have hu31 := Try.underlying31
 have hu26 := Try.underlying26
 have HR0_0 := aM_ hr0_0
 have HC0_0 := aM_ hc0_0
 clear hr0_0 hc0_0
 have HB := aM_ (Below.refl w.heap.size w)
 have H : ((spec_l2Node.f k l0_0 a1).bind fun t636 => (if t636 < 0 then (spec_l9Descent.j0 k t636 true l0_0) else (if 0 ≤ t636 then (if t636 < (l0_0.length : Int) then (spec_l9Descent.j0 k t636 (!((rd_T80 l0_0 t636).f2)) l0_0) else (none)) else (none)))) = some (r1, r2) := h
 clear h
 replace H := Option.bind_eq_some_iff.mp H
 obtain ⟨t636, A30, H⟩ := H
 try dsimp only at H
 have A3 := aM_ A30
 clear A30
 have HC4 := aM_ H
 clear H
 go_enter Try.func70, Try.ntmps70
 go_upto_region 2 with (first | ((with_reducible refine gate_dst (N := 2) rfl ?_); refine box_event ?hg (N := 2) ?hd (cs := #[.slice A0_0 l0_0.length c0_0]) (t := 31) ?hr ?_; (case hd => rfl); (case hg => rfl); (case hr => first | (go_simp; done) | (go_simp; rfl)); intro gb634 hg w5 hbox hb; have BK634 := aM_ (hbox); have GW634 := aM_ ((by rw [hg]; exact (below_size HB.out) : w.heap.size ≤ gb634)); have GE634 := GW634; replace HB := aM_ (below_step HB.out hb); clear hb hbox hg) | ((with_reducible refine gate_dst (N := 4) rfl ?_); refine box_event ?hg (N := 4) ?hd (cs := #[.int .i64 0, .int .i64 0]) (t := 26) ?hr ?_; (case hd => rfl); (case hg => rfl); (case hr => first | (go_simp; done) | (go_simp; rfl)); intro gb635 hg w6 hbox hb; have BK635 := aM_ (hbox); have GW635 := aM_ ((by rw [hg]; exact (below_size HB.out) : w.heap.size ≤ gb635)); have GE635 := GW635; replace HB := aM_ (below_step HB.out hb); have NB634_635 := aM_ ((by rw [hg]; exact Nat.ne_of_lt (blk_lt BK634.out) : gb634 ≠ gb635)); have NB635_634 := aM_ NB634_635.out.symm; replace BK634 := aM_ (blk_below BK634.out hb); clear hb hbox hg; have hnb7 := NB634_635.out; have hnc7 := NB635_634.out; have hcz8_0 : w6.cell? ⟨gb634, 0, none⟩ = some (.slice A0_0 l0_0.length c0_0) := (blk_cell BK634.out 0).trans rfl; have hfz8_0 := blk_frozen BK634.out 0) | ((with_reducible refine gate_callee (f := 98) rfl ?_); refine goesL_ (some 9) rfl rfl Try.func98 (by kernel_rfl) rfl #[.agg #[.slice A0_0 l0_0.length c0_0], .string a1] rfl (by (try simp only [sD_, sE_, sF_]); first | done | rfl | (simp only [sG_, sH_]; rfl)) ?_; (with_reducible refine (spec_l2Node.calls k _ _ l0_0 a1 t636 _ ?side1 ?side2 A3.out).mono ?_); (case side1 => repeat (first | exact (Kd.C_below HR0_0.out HB.out) | (with_reducible refine Kd.C_alloc ?_ _) | (with_reducible refine Kd.C_drewN ?_ _) | (with_reducible refine Kd.C_drew ?_))); (case side2 => exact HC0_0.out); rintro e w9 ⟨rfl, hb⟩; refine ⟨_, rfl, ?_⟩; replace BK634 := aM_ (blk_below BK634.out hb); replace BK635 := aM_ (blk_below BK635.out hb); replace HB := aM_ (below_step HB.out hb); (try clear hb); (try clear hb2); (try clear hk); (try clear hi)))
 (try simp only [Act.put, sA_, sB_, sC_])
 go_cut [20] (fun v20 wc => ∃ (kq : Nat) (x20_3 : Bool), v20 = .bool x20_3 ∧ Aside0 (spec_l9Descent.j0 kq t636 x20_3 l0_0 = some (r1, r2)) ∧ Aside0 (kq ≤ k) ∧ Aside0 (wc.heap[gb634]? = some (.cells #[(.slice A0_0 l0_0.length c0_0)] 31 (0, 0))) ∧ Aside0 (wc.heap[gb635]? = some (.cells #[.int .i64 0, .int .i64 0] 26 (0, 0))) ∧ Aside0 (Below w.heap.size w wc))
 case first =>
  have H := HC4.out
  clear HC4
  by_cases c10 : t636 < 0
  ·
   rw [if_pos c10] at H
   have c10b0 := decide_eq_true c10
   clear c10
   (first | rw [c10b0] | (simp only [i64_w, i32_w]; rw [c10b0]) | skip)
   have H' := aM_ H
   clear H
   go_wp2
   go_meet
   case rel => exact ⟨_, (true), (by first | rfl | (simp; done) | (simp [*]; done)), H', ⟨by first | omega | exact Nat.le_refl _⟩, ⟨BK634.out⟩, ⟨BK635.out⟩, ⟨HB.out⟩⟩
  ·
   rw [if_neg c10] at H
   have c10b0 := decide_eq_false c10
   clear c10
   (first | rw [c10b0] | (simp only [i64_w, i32_w]; rw [c10b0]) | skip)
   by_cases c11 : 0 ≤ t636
   ·
    rw [if_pos c11] at H
    have c11b0 := decide_eq_true c11
    clear c11
    by_cases c12 : t636 < (l0_0.length : Int)
    ·
     rw [if_pos c12] at H
     have c12b0 := decide_eq_true c12
     clear c12
     have H' := aM_ H
     clear H
     have hnb13 := NB634_635.out
     have hnc13 := NB635_634.out
     have hcz14_0 : w9.cell? ⟨gb634, 0, none⟩ = some (.slice A0_0 l0_0.length c0_0) := (blk_cell BK634.out 0).trans rfl
     have hfz14_0 := blk_frozen BK634.out 0
     have p637 : 0 ≤ (t636 : Int) := of_decide_eq_true (by first | (with_reducible assumption) | assumption)
     have q637 : t636 < (l0_0.length : Int) := of_decide_eq_true (by first | (with_reducible assumption) | assumption)
     obtain ⟨ad637, e637, hx637_0, hx637_1, hx637_2⟩ := at_T80 HR0_0.out t636 p637 q637
     cases e637
     replace hx637_0 := (HB.out.cell (World.block_lt_of_cell? w _ hx637_0)).trans hx637_0
     replace hx637_1 := (HB.out.cell (World.block_lt_of_cell? w _ hx637_1)).trans hx637_1
     replace hx637_2 := (HB.out.cell (World.block_lt_of_cell? w _ hx637_2)).trans hx637_2
     replace p637 := eq_true p637
     replace q637 := eq_true q637
     go_wp2
     go_meet
     case rel => exact ⟨_, (!((rd_T80 l0_0 t636).f2)), (by first | rfl | (simp; done) | (simp [*]; done)), H', ⟨by first | omega | exact Nat.le_refl _⟩, ⟨BK634.out⟩, ⟨BK635.out⟩, ⟨HB.out⟩⟩
    ·
     rw [if_neg c12] at H
     exact absurd H (by simp)
   ·
    rw [if_neg c11] at H
    exact absurd H (by simp)
 case rest =>
  clear HC4
  try clear c1
  try clear p2
  try clear p6
  try clear q6
  try clear hx6
  try clear c7
  try clear c9
  try clear c10
  try clear c10b0
  try clear c11
  try clear c11b0
  try clear c12
  try clear c12b0
  try clear c13
  try clear hcz14_0
  try clear hcz8_0
  try clear hfz14_0
  try clear hfz8_0
  try clear hx637_0
  try clear hx637_1
  try clear hx637_2
  try clear p637
  try clear q637
  obtain ⟨kq, x20_3, rfl, HA, HJ3, BK634, BK635, HB⟩ := hcut
  cases kq with
  | zero => exact absurd HA.out (by simp [spec_l9Descent.j0])
  | succ kj3 =>
   have H := HA.out
   clear HA
   simp only [spec_l9Descent.j0] at H
   by_cases c15 : x20_3 = true
   ·
    subst c15
    rw [if_pos rfl] at H
    simp only [Option.some.injEq, Prod.mk.injEq] at H
    obtain ⟨rfl, rfl⟩ := H
    have hnb16 := NB635_634.out
    have hnc16 := NB634_635.out
    have hcz17_0 : wc.cell? ⟨gb635, 0, none⟩ = some (.int .i64 0) := (blk_cell BK635.out 0).trans rfl
    have hcz17_1 : wc.cell? ⟨gb635, 1, none⟩ = some (.int .i64 0) := (blk_cell BK635.out 1).trans rfl
    have hfz17_0 := blk_frozen BK635.out 0
    have hfz17_1 := blk_frozen BK635.out 1
    go_wp2
    refine bodyPost_ret (results_cell_row rfl _ _ gb635 26 #[.int .i64 0, .int .i64 1] (0, 0) _ rfl (by refine blk_put (cs := #[.int .i64 0, .int .i64 0]) ?_ 1 _ rfl; refine blk_put (cs := #[.int .i64 0, .int .i64 0]) ?_ 0 _ rfl; exact BK635.out) Try.underlying26 rfl (by kernel_rfl)) rfl ?_
    exact ⟨by first | rfl | (simp [errW_none, errW_some] <;> rfl) | (simp [*, errW_none, errW_some] <;> rfl), by repeat (first | (with_reducible first | exact HB.out | apply below_alloc | apply pw_below_drewN | apply below_drew1 | refine below_set ?_ GE634.out | refine below_set ?_ GE635.out) | exact HB.out)⟩
   ·
    replace c15 := Bool.eq_false_iff.mpr c15
    subst c15
    have H1 : (spec_l9Descent.l0 kj3 t636 1 l0_0) = some (r1, r2) := by rw [if_neg (show ¬ (false = true) by decide)] at H; exact H
    clear H
    have H := H1
    clear H1
    have H' := aM_ H
    clear H
    go_wp2
    go_loopg [5, 6] kj3 (fun kq v5 v6 w' => ∃ (x5_2 : Int) (x6_2 : Int), v5 = .int .i64 x5_2 ∧ v6 = .int .i64 x6_2 ∧ Aside0 (spec_l9Descent.l0 kq x5_2 x6_2 l0_0 = some (r1, r2)) ∧ Aside0 (kq ≤ kj3) ∧ Aside0 (w'.heap[gb634]? = some (.cells #[(.slice A0_0 l0_0.length c0_0)] 31 (0, 0))) ∧ Aside0 (w'.heap[gb635]? = some (.cells #[.int .i64 0, .int .i64 0] 26 (0, 0))) ∧ Aside0 (Below w.heap.size w w'))
    case atStart => exact ⟨(t636), (1), (by first | rfl | (simp; done) | (simp [*]; done)), (by first | rfl | (simp; done) | (simp [*]; done)), H', ⟨Nat.le_refl _⟩, ⟨BK634.out⟩, ⟨BK635.out⟩, ⟨HB.out⟩⟩
    case round =>
     clear H'
     try clear c1
     try clear p2
     try clear p6
     try clear q6
     try clear hx6
     try clear c7
     try clear c9
     try clear c10
     try clear c10b0
     try clear c11
     try clear c11b0
     try clear c12
     try clear c12b0
     try clear c13
     try clear c15
     try clear c16
     try clear hcz14_0
     try clear hcz17_0
     try clear hcz17_1
     try clear hcz8_0
     try clear hfz14_0
     try clear hfz17_0
     try clear hfz17_1
     try clear hfz8_0
     try clear hx637_0
     try clear hx637_1
     try clear hx637_2
     try clear p2
     try clear p6
     try clear p637
     try clear q6
     try clear q637
     obtain ⟨x5_2, x6_2, rfl, rfl, HA, HK2, BK634, BK635, HB⟩ := hrel
     cases gk with
     | zero => exact absurd HA.out (by simp [spec_l9Descent.l0])
     | succ k2 =>
      have H := HA.out
      clear HA
      simp only [spec_l9Descent.l0] at H
      by_cases c18 : x5_2 ≥ 0
      ·
       rw [if_pos c18] at H
       have c18b0 := decide_eq_true c18
       clear c18
       replace H := Option.bind_eq_some_iff.mp H
       obtain ⟨t638, A190, H⟩ := H
       try dsimp only at H
       have A19 := aM_ A190
       clear A190
       by_cases c20 : 0 ≤ x5_2
       ·
        rw [if_pos c20] at H
        have c20b0 := decide_eq_true c20
        clear c20
        by_cases c21 : x5_2 < (l0_0.length : Int)
        ·
         rw [if_pos c21] at H
         have c21b0 := decide_eq_true c21
         clear c21
         have H' := aM_ H
         clear H
         have hnb22 := NB634_635.out
         have hnc22 := NB635_634.out
         have hcz23_0 : wr.cell? ⟨gb634, 0, none⟩ = some (.slice A0_0 l0_0.length c0_0) := (blk_cell BK634.out 0).trans rfl
         have hfz23_0 := blk_frozen BK634.out 0
         go_wp2_with (first | ((with_reducible refine gate_callee (f := 99) rfl ?_); refine goesL_ (some 33) rfl rfl Try.func99 (by kernel_rfl) rfl #[.agg #[.slice A0_0 l0_0.length c0_0], .int .i64 x5_2] rfl (by (try simp only [sD_, sE_, sF_]); first | done | rfl | (simp only [sG_, sH_]; rfl)) ?_; (with_reducible refine (spec_l9Choices.calls k2 _ _ l0_0 x5_2 t638 _ ?side1 ?side2 A19.out).mono ?_); (case side1 => repeat (first | exact (Kd.C_below HR0_0.out HB.out) | (with_reducible refine Kd.C_alloc ?_ _) | (with_reducible refine Kd.C_drewN ?_ _) | (with_reducible refine Kd.C_drew ?_))); (case side2 => exact HC0_0.out); rintro e w24 ⟨rfl, hb⟩; refine ⟨_, rfl, ?_⟩; replace BK634 := aM_ (blk_below BK634.out hb); replace BK635 := aM_ (blk_below BK635.out hb); replace HB := aM_ (below_step HB.out hb); (try clear hb); (try clear hb2); (try clear hk); (try clear hi); have hcz25_0 : w24.cell? ⟨gb634, 0, none⟩ = some (.slice A0_0 l0_0.length c0_0) := (blk_cell BK634.out 0).trans rfl; have hfz25_0 := blk_frozen BK634.out 0; have p639 : 0 ≤ (x5_2 : Int) := of_decide_eq_true (by first | (with_reducible assumption) | assumption); have q639 : x5_2 < (l0_0.length : Int) := of_decide_eq_true (by first | (with_reducible assumption) | assumption); obtain ⟨ad639, e639, hx639_0, hx639_1, hx639_2⟩ := at_T80 HR0_0.out x5_2 p639 q639; cases e639; replace hx639_0 := (HB.out.cell (World.block_lt_of_cell? w _ hx639_0)).trans hx639_0; replace hx639_1 := (HB.out.cell (World.block_lt_of_cell? w _ hx639_1)).trans hx639_1; replace hx639_2 := (HB.out.cell (World.block_lt_of_cell? w _ hx639_2)).trans hx639_2; replace p639 := eq_true p639; replace q639 := eq_true q639))
         go_roundg k2
         case measure => have := HJ3.out; have := HK2.out; omega
         case rel => exact ⟨((rd_T80 l0_0 x5_2).f1), (wrap64 (x6_2 * t638)), (by first | rfl | (simp; done) | (simp [*]; done)), (by first | rfl | (simp; done) | (simp [*]; done)), H', ⟨by have := HJ3.out; have := HK2.out; omega⟩, ⟨BK634.out⟩, ⟨BK635.out⟩, ⟨HB.out⟩⟩
        ·
         rw [if_neg c21] at H
         exact absurd H (by simp)
       ·
        rw [if_neg c20] at H
        exact absurd H (by simp)
      ·
       rw [if_neg c18] at H
       have c18b0 := decide_eq_false c18
       clear c18
       simp only [Option.some.injEq, Prod.mk.injEq] at H
       obtain ⟨rfl, rfl⟩ := H
       have hnb26 := NB635_634.out
       have hnc26 := NB634_635.out
       have hcz27_0 : wr.cell? ⟨gb635, 0, none⟩ = some (.int .i64 0) := (blk_cell BK635.out 0).trans rfl
       have hcz27_1 : wr.cell? ⟨gb635, 1, none⟩ = some (.int .i64 0) := (blk_cell BK635.out 1).trans rfl
       have hfz27_0 := blk_frozen BK635.out 0
       have hfz27_1 := blk_frozen BK635.out 1
       go_wp2
       refine bodyPost_ret (results_cell_row rfl _ _ gb635 26 #[.int .i64 1, .int .i64 x6_2] (0, 0) _ rfl (by refine blk_put (cs := #[.int .i64 1, .int .i64 0]) ?_ 1 _ rfl; refine blk_put (cs := #[.int .i64 0, .int .i64 0]) ?_ 0 _ rfl; exact BK635.out) Try.underlying26 rfl (by kernel_rfl)) rfl ?_
       exact ⟨by first | rfl | (simp [errW_none, errW_some] <;> rfl) | (simp [*, errW_none, errW_some] <;> rfl), by repeat (first | (with_reducible first | exact HB.out | apply below_alloc | apply pw_below_drewN | apply below_drew1 | refine below_set ?_ GE634.out | refine below_set ?_ GE635.out) | exact HB.out)⟩
end Go.Proofs.Ytgagmodkjmegeaa.P
namespace Go.Proofs.Ytgagmodkjmegeaa.L
open Go.RowKit Go.Proofs.Ytgagmodkjmegeaa.P Go.Proofs.Ytgagmodkjmegeaa.M Go.Proofs.YtgagmodkjmegeaaW.PrintWords Go.Proofs.YtgagmodkjmegeaaW.PrintLast Go.Proofs.YtgagmodkjmegeaaW.PrintMore
set_option linter.unusedVariables false
theorem wrap_shift (x k : Int) : wrap64 (x - k * 18446744073709551616) = wrap64 x := by unfold wrap64; omega
theorem wrap_ex (x : Int) : ∃ k : Int, wrap64 x = x - k * 18446744073709551616 := ⟨(x + 9223372036854775808) / 18446744073709551616, by unfold wrap64; omega⟩
theorem wrap_mul_l (a b : Int) : wrap64 (wrap64 a * b) = wrap64 (a * b) := by
 obtain ⟨k, hk⟩ := wrap_ex a
 rw [hk, Int.sub_mul, show k * 18446744073709551616 * b = (k * b) * 18446744073709551616 from by rw [Int.mul_assoc, Int.mul_assoc, Int.mul_comm 18446744073709551616 b], wrap_shift]
theorem wrap_mul_r (a b : Int) : wrap64 (a * wrap64 b) = wrap64 (a * b) := by rw [Int.mul_comm, wrap_mul_l, Int.mul_comm]
def chc (P ws : List Txt) (p : Txt) : Nat := (kidsL P p).length + (if p ∈ ws then 1 else 0)
def denF (P ws : List Txt) : Nat → Txt → Nat
 | 0, _ => chc P ws []
 | n + 1, p => chc P ws p * denF P ws n p.dropLast
def den (P ws : List Txt) (p : Txt) : Nat := denF P ws p.length p
theorem den_step (P ws : List Txt) {p : Txt} (h : p ≠ []) : den P ws p = chc P ws p * den P ws p.dropLast := by
 unfold den
 obtain ⟨n, hn⟩ : ∃ n, p.length = n + 1 := ⟨p.length - 1, by have := List.length_pos_iff.2 h; omega⟩
 rw [hn, denF, show p.dropLast.length = n from by rw [List.length_dropLast]; omega]
theorem den_nil (P ws : List Txt) : den P ws [] = chc P ws [] := rfl
theorem choices_ev {P : List Txt} (ws : List Txt) (hA : Asc P) (hC : Clo P) (hP : P.length ≤ 1000000) {i : Nat} (hi : i < P.length) : Ev (fun k => spec_l9Choices.f k (trN P ws) (i : Int)) ((chc P ws (P.getD i []) : Nat) : Int) := by
 unfold spec_l9Choices.f
 refine Ev.bind (l2Kids_ev ws hA hC hP hi) (Ev.ifT (by omega) (Ev.ifT (by rw [trN_length]; omega) ?_))
 have hk := kidI_len P (P.getD i [])
 have hkl := kidF_le P (P.getD i []) P.length 0
 have hkl2 : (kidI P (P.getD i [])).length ≤ 1000000 := Nat.le_trans hkl hP
 have hf : (rd_T80 (trN P ws) (i : Int)).f2 = decide (P.getD i [] ∈ ws) := by rw [rdN P ws i hi]; rfl
 unfold chc
 rw [hf, ← hk]
 by_cases hm : P.getD i [] ∈ ws
 ·
  rw [if_pos hm]
  refine Ev.ifT (decide_eq_true hm) ?_
  rw [wrap64_id (by omega) (by omega), Int.natCast_add]
  exact Ev.now _
 ·
  rw [if_neg hm, Nat.add_zero]
  exact Ev.ifF (by rw [decide_eq_false hm]; exact Bool.false_ne_true) (Ev.now _)
theorem descent_up {P : List Txt} (ws : List Txt) (hA : Asc P) (hC : Clo P) (hP : P.length ≤ 1000000) : ∀ (n : Nat) (p : Txt) (b : Int), p.length = n → p ∈ P → Ev (fun k => spec_l9Descent.l0 k ((placeL P p : Nat) : Int) b (trN P ws)) (1, if True then wrap64 (b * (den P ws p : Nat)) else 0) := by
 intro n
 induction n with
 | zero =>
  intro p b h1 h2
  have hp : p = [] := List.eq_nil_of_length_eq_zero h1
  subst hp
  obtain ⟨z1, z2⟩ := placeL_mem h2
  rw [if_pos trivial, den_nil]
  refine Ev.step (fun k => spec_l9Descent.l0.eq_2 ..) (Ev.ifT (by omega) ?_)
  have hc := choices_ev ws hA hC hP z1
  rw [z2] at hc
  refine Ev.bind hc (Ev.ifT (by omega) (Ev.ifT (by rw [trN_length]; omega) ?_))
  have hf : (rd_T80 (trN P ws) ((placeL P [] : Nat) : Int)).f1 = -1 := by rw [rdN P ws _ z1, z2]; rfl
  rw [hf]
  exact Ev.step (fun k => spec_l9Descent.l0.eq_2 ..) (Ev.ifF (by omega) (Ev.now _))
 | succ n ih =>
  intro p b h1 h2
  have hne : p ≠ [] := fun e => by rw [e] at h1; simp at h1
  obtain ⟨z1, z2⟩ := placeL_mem h2
  refine Ev.step (fun k => spec_l9Descent.l0.eq_2 ..) (Ev.ifT (by omega) ?_)
  have hc := choices_ev ws hA hC hP z1
  rw [z2] at hc
  refine Ev.bind hc (Ev.ifT (by omega) (Ev.ifT (by rw [trN_length]; omega) ?_))
  have hf : (rd_T80 (trN P ws) ((placeL P p : Nat) : Int)).f1 = ((placeL P p.dropLast : Nat) : Int) := by
   rw [rdN P ws _ z1, z2]
   unfold mkN ndL
   rw [if_neg hne, if_neg hne]
  rw [hf]
  have := ih p.dropLast (wrap64 (b * (chc P ws p : Nat))) (by rw [List.length_dropLast]; omega) (hC.2 p h2 hne)
  rw [if_pos trivial, wrap_mul_l, Int.mul_assoc, ← Int.natCast_mul, ← den_step P ws hne] at this
  rw [if_pos trivial]
  exact this
theorem descent_ev {P : List Txt} (ws : List Txt) (hA : Asc P) (hC : Clo P) (hW : ∀ p ∈ P, wordL p = true) (hP : P.length ≤ 1000000) (w : Txt) (hw : w.length ≤ 1000000) : Ev (fun k => spec_l9Descent.f k (trN P ws) (B w)) (if w ∈ P ∧ w ∈ ws then (1, wrap64 (den P ws w : Nat)) else (0, 1)) := by
 unfold spec_l9Descent.f
 refine Ev.bind (l2Node_ev ws hA hC hW hP w hw) ?_
 by_cases hm : w ∈ P
 ·
  obtain ⟨z1, z2⟩ := placeL_mem hm
  have hf : (rd_T80 (trN P ws) ((placeL P w : Nat) : Int)).f2 = decide (w ∈ ws) := by rw [rdN P ws _ z1, z2]; rfl
  rw [if_pos hm]
  refine Ev.ifF (by omega) (Ev.ifT (by omega) (Ev.ifT (by rw [trN_length]; omega) ?_))
  rw [hf]
  by_cases hmw : w ∈ ws
  ·
   rw [if_pos ⟨hm, hmw⟩, decide_eq_true hmw]
   have := descent_up ws hA hC hP _ w 1 rfl hm
   rw [if_pos trivial, Int.one_mul] at this
   exact Ev.step (fun k => spec_l9Descent.j0.eq_2 ..) (Ev.ifF (by simp) this)
  ·
   rw [if_neg fun h => hmw h.2, decide_eq_false hmw]
   exact Ev.step (fun k => spec_l9Descent.j0.eq_2 ..) (Ev.ifT rfl (Ev.now _))
 ·
  rw [if_neg hm, if_neg fun h => hm h.1]
  exact Ev.ifT (by omega) (Ev.step (fun k => spec_l9Descent.j0.eq_2 ..) (Ev.ifT rfl (Ev.now _)))
theorem index_ev (l : List Txt) (p : Txt) (hl : l.length ≤ 1000000) (h : p ∈ l) : Ev (fun k => slices_Index_string_string.f k (l.map B) (B p)) ((placeL l p : Nat) : Int) := by
 have loop : ∀ d i, i + d = l.length → p ∈ l.drop i → Ev (fun k => slices_Index_string_string.l0 k (l.map B) (B p) (l.length : Int) (i : Int)) ((i + placeL (l.drop i) p : Nat) : Int) := by
  intro d
  induction d with
  | zero => intro i h1 h2; rw [List.drop_of_length_le (by omega)] at h2; simp at h2
  | succ d ih =>
   intro i h1 h2
   have hi : i < l.length := by omega
   rw [drop_cons_getD [] hi] at h2 ⊢
   refine Ev.step (fun k => slices_Index_string_string.l0.eq_2 ..) (Ev.ifT (by omega) (Ev.ifT (by omega) (Ev.ifT (by rw [List.length_map]; omega) ?_)))
   rw [rdB l i hi, toList_B, toList_B, placeL]
   by_cases e : l.getD i [] = p
   ·
    rw [if_pos e]
    exact Ev.ifT e.symm (Ev.now _)
   ·
    rw [if_neg e]
    refine Ev.ifF (fun q => e q.symm) ?_
    rw [wrap64_succ i (by omega), show i + (placeL (l.drop (i + 1)) p + 1) = i + 1 + placeL (l.drop (i + 1)) p from by omega]
    exact ih (i + 1) (by omega) ((List.mem_cons.1 h2).resolve_left fun q => e q.symm)
 have := loop l.length 0 (by omega) (by rw [List.drop_zero]; exact h)
 rw [List.drop_zero, Nat.zero_add] at this
 unfold slices_Index_string_string.f
 rw [List.length_map]
 exact this
def dens (P ws l : List Txt) : List Int := l.map fun p => wrap64 (den P ws p : Nat)
theorem chances_in {P ws : List Txt} (hA : Asc P) (hP : P.length ≤ 1000000) (hw : ∀ w ∈ ws, w ∈ P) (hl : ws.length ≤ 1000000) : ∀ (d i : Nat) (acc : List Int), i + d = ws.length → acc.length ≤ i →
  Ev (fun k => impl_Trie_chances.l1 k (P.map B) (dens P ws P) acc (ws.map B) (ws.length : Int) (i : Int)) (acc ++ dens P ws (ws.drop i)) := by
 intro d
 induction d with
 | zero =>
  intro i acc h1 h2
  rw [List.drop_of_length_le (by omega)]
  exact Ev.step (fun k => impl_Trie_chances.l1.eq_2 ..) (Ev.ifF (by omega) (by simpa [dens] using Ev.now _))
 | succ d ih =>
  intro i acc h1 h2
  have hi : i < ws.length := by omega
  have hm := hw _ (getD_mem hi)
  obtain ⟨z1, z2⟩ := placeL_mem hm
  refine Ev.step (fun k => impl_Trie_chances.l1.eq_2 ..) (Ev.ifT (by omega) (Ev.ifT (by omega) (Ev.ifT (by rw [List.length_map]; omega) ?_)))
  rw [rdB ws i hi]
  refine Ev.bind (index_ev P _ hP hm) (Ev.ifT (by omega) (Ev.ifT (by unfold dens; rw [List.length_map]; omega) (Ev.ifT (by omega) ?_)))
  have hr : rd (dens P ws P) ((placeL P (ws.getD i []) : Nat) : Int) = wrap64 (den P ws (ws.getD i []) : Nat) := by
   unfold dens
   rw [rd_nat, getD_lt 0 (by rw [List.length_map]; exact z1), List.getElem_map, ← getD_lt [] z1, z2]
  rw [hr, wrap64_succ i (by omega)]
  have := ih (i + 1) (acc ++ [wrap64 (den P ws (ws.getD i []) : Nat)]) (by omega) (by simp; omega)
  rw [drop_cons_getD [] hi]
  unfold dens at this ⊢
  rw [List.map_cons]
  rw [List.append_assoc] at this
  exact this
theorem chances_out {P ws : List Txt} (hA : Asc P) (hC : Clo P) (hP : P.length ≤ 1000000) (hw : ∀ w ∈ ws, w ∈ P) (hl : ws.length ≤ 1000000) (hwords : Ev (fun k => impl_Trie_words.f k (trN P ws)) (ws.map B)) : ∀ (d i : Nat), i + d = P.length →
  Ev (fun k => impl_Trie_chances.l0 k (P.map B) (dens P ws (P.take i)) [] (trN P ws) ((trN P ws).length : Int) (i : Int) (trN P ws)) (dens P ws ws) := by
 intro d
 induction d with
 | zero =>
  intro i h1
  rw [List.take_of_length_le (by omega)]
  refine Ev.step (fun k => impl_Trie_chances.l0.eq_2 ..) (Ev.ifF (by rw [trN_length]; omega) (Ev.bind hwords ?_))
  have := chances_in hA hP hw hl ws.length 0 [] (by omega) (by simp)
  rw [List.drop_zero, List.nil_append] at this
  rw [List.length_map]
  exact this
 | succ d ih =>
  intro i h1
  have hi : i < P.length := by omega
  have hlen : (dens P ws (P.take i)).length = i := by unfold dens; rw [List.length_map, List.length_take]; omega
  have hnext : dens P ws (P.take (i + 1)) = dens P ws (P.take i) ++ [wrap64 (den P ws (P.getD i []) : Nat)] := by
   unfold dens
   rw [take_succ_getD [] hi, List.map_append, List.map_singleton]
  have hk := kidI_len P (P.getD i [])
  have hkl : (kidI P (P.getD i [])).length ≤ 1000000 := Nat.le_trans (kidF_le P (P.getD i []) P.length 0) hP
  have hf2 : (rd_T80 (trN P ws) (i : Int)).f2 = decide (P.getD i [] ∈ ws) := by rw [rdN P ws i hi]; rfl
  have hgo := ih (i + 1) (by omega)
  rw [hnext] at hgo
  refine Ev.step (fun k => impl_Trie_chances.l0.eq_2 ..) (Ev.ifT (by rw [trN_length]; omega) (Ev.ifT (by omega) (Ev.ifT (by rw [trN_length]; omega) (Ev.bind (kids_ev ws hA hC hP hi) ?_))))
  rw [hf2, wrap64_succ i (by omega)]
  have hroot : i = 0 → P.getD i [] = [] := fun e => by rw [e]; exact (clo_zero hA hC).2
  have hpar : 0 < i → (rd_T80 (trN P ws) (i : Int)).f1 = ((placeL P (P.getD i []).dropLast : Nat) : Int) ∧ placeL P (P.getD i []).dropLast < i ∧ rd (dens P ws (P.take i)) ((placeL P (P.getD i []).dropLast : Nat) : Int) = wrap64 (den P ws (P.getD i []).dropLast : Nat) ∧ den P ws (P.getD i []) = chc P ws (P.getD i []) * den P ws (P.getD i []).dropLast := fun h0 => by
   have hne := clo_pos hA hC hi h0
   obtain ⟨j1, j2⟩ := clo_parent hA hC hi h0
   refine ⟨?_, j1, ?_, den_step P ws hne⟩
   ·
    rw [rdN P ws i hi]
    unfold mkN ndL
    rw [if_neg hne, if_neg hne]
   ·
    unfold dens
    have hj : placeL P (P.getD i []).dropLast < (P.take i).length := by rw [List.length_take]; omega
    rw [rd_nat, getD_lt 0 (by rw [List.length_map]; exact hj), List.getElem_map, List.getElem_take, ← getD_lt [] (show placeL P (P.getD i []).dropLast < P.length by omega), j2]
  by_cases hm : P.getD i [] ∈ ws
  ·
   rw [decide_eq_true hm]
   have hc : chc P ws (P.getD i []) = (kidI P (P.getD i [])).length + 1 := by unfold chc; rw [if_pos hm, hk]
   have hw1 : wrap64 (((kidI P (P.getD i [])).length : Int) + 1) = ((chc P ws (P.getD i []) : Nat) : Int) := by rw [wrap64_id (by omega) (by omega), hc, Int.natCast_add]; rfl
   refine Ev.ifT rfl ?_
   rw [hw1]
   by_cases h0 : 0 < i
   ·
    obtain ⟨q1, q2, q3, q4⟩ := hpar h0
    rw [q4, Int.natCast_mul, ← wrap_mul_r, ← q3] at hgo
    rw [q1]
    exact Ev.ifT (by omega) (Ev.ifT (by omega) (Ev.ifT (by omega) (Ev.ifT (by omega) hgo)))
   ·
    have hi0 : i = 0 := by omega
    rw [hroot hi0, den_nil] at hgo
    rw [hroot hi0]
    have hb : chc P ws [] ≤ 1000001 := by have := hroot hi0; rw [this] at hc hkl; omega
    rw [show wrap64 ((chc P ws [] : Nat) : Int) = ((chc P ws [] : Nat) : Int) from wrap64_id (by omega) (by omega)] at hgo
    exact Ev.ifF (by omega) (Ev.ifT (by omega) hgo)
  ·
   rw [decide_eq_false hm]
   have hc : chc P ws (P.getD i []) = (kidI P (P.getD i [])).length := by unfold chc; rw [if_neg hm, hk, Nat.add_zero]
   refine Ev.ifF Bool.false_ne_true ?_
   rw [← hc]
   by_cases h0 : 0 < i
   ·
    obtain ⟨q1, q2, q3, q4⟩ := hpar h0
    rw [q4, Int.natCast_mul, ← wrap_mul_r, ← q3] at hgo
    rw [q1]
    exact Ev.ifT (by omega) (Ev.ifT (by omega) (Ev.ifT (by omega) (Ev.ifT (by omega) hgo)))
   ·
    have hi0 : i = 0 := by omega
    rw [hroot hi0, den_nil] at hgo
    rw [hroot hi0]
    have hb : chc P ws [] ≤ 1000001 := by have := hroot hi0; rw [this] at hc hkl; omega
    rw [show wrap64 ((chc P ws [] : Nat) : Int) = ((chc P ws [] : Nat) : Int) from wrap64_id (by omega) (by omega)] at hgo
    exact Ev.ifF (by omega) (Ev.ifT (by omega) hgo)
theorem chances_ev {ws : List Txt} (h : OkW ws) : Ev (fun k => impl_Trie_chances.f k (trN (preL ws) ws)) (dens (preL ws) ws ws) := by
 have h1 := h.pre
 have h2 := h.len
 unfold impl_Trie_chances.f
 refine Ev.bind (prefixes_tr h) ?_
 have := chances_out (asc_preL ws) (clo_preL ws) (by omega) (fun w hw => self_preL hw) (by omega) (words_ev h) (preL ws).length 0 (by omega)
 rw [List.take_zero] at this
 exact this
end Go.Proofs.Ytgagmodkjmegeaa.L
