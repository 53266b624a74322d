/-
  Part 5 of what several laws reach in common: functions of the program, each with its contract, and plain lemmas.
  Conditions: those of the given statement, no others.
-/
import Derived.Test.YtfhffcefpnkllaaDoorKaW0
import Derived.Test.YtfhffcefpnkllaaDoorKa0
import Derived.Test.YtfhffcefpnkllaaDoorKa2
import Derived.Test.YtfhffcefpnkllaaDoorKa3
import Derived.Test.YtfhffcefpnkllaaDoorKa1
set_option linter.unusedVariables false
set_option linter.unusedSimpArgs false
set_option maxHeartbeats 8000000
set_option maxRecDepth 100000
namespace Go.Proofs.YtfhffcefpnkllaaDoor.L
open Go.RowKit Go.Proofs.YtfhffcefpnkllaaDoor.P Go.Proofs.YtfhffcefpnkllaaDoor.M Go.Proofs.YtfhffcefpnkllaaDoorW.PrintWords Go.Proofs.YtfhffcefpnkllaaDoorW.PrintLast Go.Proofs.YtfhffcefpnkllaaDoorW.PrintMore
instance : DecidableEq Bd := fun a b => if h : a.f0 = b.f0 ∧ a.f1 = b.f1 ∧ a.f2 = b.f2 then isTrue (by obtain ⟨a0, a1, a2⟩ := a; obtain ⟨b0, b1, b2⟩ := b; obtain ⟨h1, h2, h3⟩ := h; simp only at h1 h2 h3; subst h1 h2 h3; rfl) else isFalse (fun e => h (by rw [e]; exact ⟨rfl, rfl, rfl⟩))
theorem rd_getB (N : List Bd) (i : Nat) (h : i < N.length) : rd_T56 N (i : Int) = N[i] := by
 unfold rd_T56
 rw [Int.toNat_natCast, getD_lt _ h]
theorem bytes_eq (a b : ByteArray) : a.toList = b.toList ↔ a = b := by
 obtain ⟨l, rfl⟩ := exB a
 obtain ⟨m, rfl⟩ := exB b
 rw [toList_B, toList_B, B_eq]
theorem branch_ne (a b : Bd) : (!(a.f0.toList == b.f0.toList) || (!(a.f1 == b.f1) || (!(a.f2 == b.f2)))) = decide (a ≠ b) := by
 obtain ⟨a0, a1, a2⟩ := a
 obtain ⟨b0, b1, b2⟩ := b
 by_cases h0 : a0 = b0
 ·
  by_cases h1 : a1 = b1
  ·
   by_cases h2 : a2 = b2
   ·
    subst h0 h1 h2; simp
   ·
    have : (a2 == b2) = false := beq_eq_false_iff_ne.2 h2
    simp [this, h2]
  ·
   have : (a1 == b1) = false := beq_eq_false_iff_ne.2 h1
   simp [this, h1]
 ·
  have : (a0.toList == b0.toList) = false := beq_eq_false_iff_ne.2 fun e => h0 ((bytes_eq _ _).1 e)
  simp [this, h0]
theorem equalB_loop (M N : List Bd) (hM : M.length ≤ 4611686018427387903) (he : M.length = N.length) : ∀ (d i : Nat), i + d = M.length → Ev (fun k => impl_Branch.l0 k M N (M.length : Int) (i : Int)) (decide (M.drop i = N.drop i)) := by
 intro d
 induction d with
 | zero =>
  intro i h
  rw [List.drop_of_length_le (by omega), List.drop_of_length_le (by omega)]
  exact Ev.step (fun k => impl_Branch.l0.eq_2 ..) (Ev.ifF (by omega) (by simpa using Ev.now true))
 | succ d ih =>
  intro i h
  have h1 : i < M.length := by omega
  have h2 : i < N.length := by omega
  refine Ev.step (fun k => impl_Branch.l0.eq_2 ..) (Ev.ifT (by omega) (Ev.ifT (by omega) (Ev.ifT (by omega) (Ev.ifT (by omega) ?_))))
  rw [rd_getB M i h1, rd_getB N i h2, branch_ne, List.drop_eq_getElem_cons h1, List.drop_eq_getElem_cons h2]
  by_cases e : M[i] = N[i]
  ·
   rw [decide_eq_false (show ¬ M[i] ≠ N[i] from fun q => q e)]
   refine Ev.ifF Bool.false_ne_true ?_
   rw [wrap64_succ i (by omega)]
   simpa only [e, List.cons.injEq, true_and] using ih (i + 1) (by omega)
  ·
   rw [decide_eq_true e]
   refine Ev.ifT rfl ?_
   simpa only [e, List.cons.injEq, false_and, decide_false] using Ev.now false
theorem equalB_ev (M N : List Bd) (hM : M.length ≤ 4611686018427387903) : Ev (fun k => impl_Branch.f k M N) (decide (M = N)) := by
 unfold impl_Branch.f
 by_cases h : M.length = N.length
 ·
  refine Ev.ifT (by omega) ?_
  have := equalB_loop M N hM h M.length 0 (by omega)
  rwa [List.drop_zero, List.drop_zero] at this
 ·
  refine Ev.ifF (by omega) ?_
  rw [decide_eq_false fun e => h (by rw [e])]
  exact Ev.now _
theorem l4Same_loop (M N : List Bd) (hM : M.length ≤ 4611686018427387903) : ∀ (d i : Nat), i + d = M.length → i ≤ N.length → Ev (fun k => spec_l4Same.l0 k (i : Int) M N) (decide (M.drop i = N.drop i)) := by
 intro d
 induction d with
 | zero =>
  intro i h hN
  refine Ev.step (fun k => spec_l4Same.l0.eq_2 ..) (Ev.ifF (by omega) (Ev.step (fun k => spec_l4Same.j1.eq_2 ..) (Ev.ifF Bool.false_ne_true ?_)))
  rw [List.drop_of_length_le (show M.length ≤ i by omega)]
  have : ((M.length : Int) == (N.length : Int)) = decide ([] = N.drop i) := by
   by_cases e : M.length = N.length
   ·
    rw [List.drop_of_length_le (by omega), e]; simp
   ·
    have h1 : ((M.length : Int) == (N.length : Int)) = false := beq_eq_false_iff_ne.2 (by omega)
    rw [h1, decide_eq_false]
    intro q
    have := congrArg List.length q
    rw [List.length_drop, List.length_nil] at this
    omega
  rw [this]
  exact Ev.now _
 | succ d ih =>
  intro i h hN
  have h1 : i < M.length := by omega
  by_cases h2 : i < N.length
  ·
   refine Ev.step (fun k => spec_l4Same.l0.eq_2 ..) (Ev.ifT (by omega) ?_)
   rw [decide_eq_true (show (i : Int) < (N.length : Int) by omega)]
   refine Ev.step (fun k => spec_l4Same.j1.eq_2 ..) (Ev.ifT rfl (Ev.ifT (by omega) (Ev.ifT (by omega) (Ev.ifT (by omega) ?_))))
   rw [rd_getB M i h1, rd_getB N i h2, branch_ne, List.drop_eq_getElem_cons h1, List.drop_eq_getElem_cons h2]
   by_cases e : M[i] = N[i]
   ·
    rw [decide_eq_false (show ¬ M[i] ≠ N[i] from fun q => q e)]
    refine Ev.ifF Bool.false_ne_true ?_
    rw [wrap64_succ i (by omega)]
    simpa only [e, List.cons.injEq, true_and] using ih (i + 1) (by omega) (by omega)
   ·
    rw [decide_eq_true e]
    refine Ev.ifT rfl ?_
    simpa only [e, List.cons.injEq, false_and, decide_false] using Ev.now false
  ·
   refine Ev.step (fun k => spec_l4Same.l0.eq_2 ..) (Ev.ifT (by omega) ?_)
   rw [decide_eq_false (show ¬ (i : Int) < (N.length : Int) by omega)]
   refine Ev.step (fun k => spec_l4Same.j1.eq_2 ..) (Ev.ifF Bool.false_ne_true ?_)
   have h3 : ((M.length : Int) == (N.length : Int)) = false := beq_eq_false_iff_ne.2 (by omega)
   rw [h3, decide_eq_false]
   ·
    exact Ev.now _
   ·
    intro q
    have := congrArg List.length q
    rw [List.length_drop, List.length_drop] at this
    omega
theorem l4Same_ev (M N : List Bd) (hM : M.length ≤ 4611686018427387903) : Ev (fun k => spec_l4Same.f k M N) (decide (M = N)) := by
 have := l4Same_loop M N hM M.length 0 (by omega) (by omega)
 rw [List.drop_zero, List.drop_zero] at this
 exact this
def bpGo : List Bd → List Txt → Option (List Txt)
 | [], acc => some acc
 | b :: r, acc => if 0 ≤ b.f1 ∧ b.f1 < (acc.length : Int) ∧ b.f0.data.toList.length ≤ 12 ∧ wordL (acc.getD b.f1.toNat [] ++ b.f0.data.toList) = true then bpGo r (acc ++ [acc.getD b.f1.toNat [] ++ b.f0.data.toList]) else none
theorem bpref_loop (N' : List Bd) (hN : N'.length ≤ 1000000) : ∀ (d i : Nat) (acc : List Txt), i + d = N'.length → acc.length = i + 1 → (∀ p ∈ acc, wordL p = true) →
  Ev (fun k => impl_Pressed_prefixes.l0 k (acc.map B) N' (N'.length : Int) (i : Int)) (prefR (bpGo (N'.drop i) acc)) := by
 intro d
 induction d with
 | zero =>
  intro i acc h1 h2 h3
  rw [List.drop_of_length_le (by omega)]
  exact Ev.step (fun k => impl_Pressed_prefixes.l0.eq_2 ..) (Ev.ifF (by omega) (Ev.now _))
 | succ d ih =>
  intro i acc h1 h2 h3
  have hi : i < N'.length := by omega
  rw [List.drop_eq_getElem_cons hi]
  refine Ev.step (fun k => impl_Pressed_prefixes.l0.eq_2 ..) (Ev.ifT (by omega) (Ev.ifT (by omega) (Ev.ifT (by omega) ?_)))
  rw [rd_getB N' i hi, in_eq]
  obtain ⟨s, hs⟩ := exB N'[i].f0
  unfold bpGo
  rw [hs, data_B, size_B]
  by_cases ha : 0 ≤ N'[i].f1 ∧ N'[i].f1 ≤ (i : Int)
  ·
   rw [decide_eq_true ha]
   refine Ev.some_bind (Ev.ifT rfl ?_)
   by_cases hl : s.length ≤ 12
   ·
    obtain ⟨m, hm⟩ : ∃ m : Nat, N'[i].f1 = (m : Int) := ⟨N'[i].f1.toNat, by omega⟩
    have hml : m < acc.length := by omega
    have hmw := h3 _ (getD_mem hml)
    have hm12 := (wordL_iff.1 hmw).2
    rw [hm, rdB acc m hml, Int.toNat_natCast]
    refine Ev.ifF (by omega) (Ev.ifT (by omega) (Ev.ifT (by rw [List.length_map]; omega) (Ev.ifT (by rw [size_B]; omega) ?_)))
    rw [append_B, isWord_eq]
    by_cases hw : wordL (acc.getD m [] ++ s) = true
    ·
     rw [hw, if_pos ⟨by omega, by omega, hl, rfl⟩]
     refine Ev.some_bind (Ev.ifT rfl (Ev.ifT (by rw [List.length_map]; omega) ?_))
     rw [wrap64_succ i (by omega)]
     have := ih (i + 1) (acc ++ [acc.getD m [] ++ s]) (by omega) (by simp; omega) (fun p hp => by
      rcases List.mem_append.1 hp with hp | hp
      ·
       exact h3 p hp
      ·
       rw [List.mem_singleton.1 hp]; exact hw)
     rw [List.map_append, List.map_singleton] at this
     exact this
    ·
     rw [if_neg fun h => hw h.2.2.2, show wordL (acc.getD m [] ++ s) = false from by simpa using hw]
     exact Ev.some_bind (Ev.ifF Bool.false_ne_true (Ev.now _))
   ·
    rw [if_neg fun h => hl h.2.2.1]
    exact Ev.ifT (by omega) (Ev.now _)
  ·
   rw [decide_eq_false ha, if_neg (fun h => ha ⟨h.1, by omega⟩)]
   exact Ev.some_bind (Ev.ifF Bool.false_ne_true (Ev.now _))
def bpN (N : List Bd) : Option (List Txt) := if 1 ≤ N.length ∧ N.length ≤ 81 then bpGo (N.drop 1) [[]] else none
theorem bprefixes_ev (N : List Bd) : Ev (fun k => impl_Pressed_prefixes.f k N) (prefR (bpN N)) := by
 unfold impl_Pressed_prefixes.f bpN
 simp only [in_eq]
 by_cases h : 1 ≤ N.length ∧ N.length ≤ 81
 ·
  rw [if_pos h, decide_eq_true (show (1 : Int) ≤ (N.length : Int) ∧ (N.length : Int) ≤ 81 by omega)]
  refine Ev.some_bind (Ev.ifT rfl (Ev.ifT (by omega) (Ev.some_bind ?_)))
  exact bpref_loop (N.drop 1) (by rw [List.length_drop]; omega) (N.drop 1).length 0 [[]] (by omega) rfl (by simp; rfl)
 ·
  rw [if_neg h, decide_eq_false (show ¬ ((1 : Int) ≤ (N.length : Int) ∧ (N.length : Int) ≤ 81) by omega)]
  exact Ev.some_bind (Ev.ifF Bool.false_ne_true (Ev.now _))
theorem bpGo_ok : ∀ (r : List Bd) (acc ps : List Txt), bpGo r acc = some ps → (∀ p ∈ acc, wordL p = true) → (∀ p ∈ ps, wordL p = true) ∧ ps.length = acc.length + r.length
 | [], acc, ps, h, ha => by
  obtain rfl := Option.some.inj h
  exact ⟨ha, rfl⟩
 | n :: r, acc, ps, h, ha => by
  unfold bpGo at h
  by_cases hc : 0 ≤ n.f1 ∧ n.f1 < (acc.length : Int) ∧ n.f0.data.toList.length ≤ 12 ∧ wordL (acc.getD n.f1.toNat [] ++ n.f0.data.toList) = true
  ·
   rw [if_pos hc] at h
   obtain ⟨h1, h2⟩ := bpGo_ok r _ ps h (fun p hp => by
    rcases List.mem_append.1 hp with hp | hp
    ·
     exact ha p hp
    ·
     rw [List.mem_singleton.1 hp]; exact hc.2.2.2)
   exact ⟨h1, by rw [h2]; simp; omega⟩
  ·
   rw [if_neg hc] at h; cases h
theorem brs_get (P ws : List Txt) (i : Nat) (h : i < (brs P ws).length) : (brs P ws)[i] = brN (brL P ws ((stayQ P ws).getD i [])) := by
 have h2 : i < (stayQ P ws).length := by rwa [brs_length] at h
 simp only [brs, brsL, List.getElem_map, getD_lt [] h2]
theorem bpGo_tr {P : List Txt} (ws : List Txt) (hA : Asc P) (hC : Clo P) (hW : ∀ p ∈ P, wordL p = true) : ∀ (d i : Nat), i + d = (stayQ P ws).length → 0 < i → bpGo ((brs P ws).drop i) ((stayQ P ws).take i) = some (stayQ P ws) := by
 intro d
 induction d with
 | zero =>
  intro i h h0
  rw [List.drop_of_length_le (by rw [brs_length]; omega), List.take_of_length_le (by omega)]
  rfl
 | succ d ih =>
  intro i h h0
  have hi : i < (stayQ P ws).length := by omega
  have hb : i < (brs P ws).length := by rw [brs_length]; exact hi
  have hm := getD_mem hi
  have hne := stayQ_pos ws hA hC hi h0
  obtain ⟨u1, u2⟩ := stayQ_parent ws hA hC hi h0
  have hup := up_append ws hC (mem_stayQ.1 hm).1 hne
  have hw := hW _ (mem_stayQ.1 hm).1
  rw [List.drop_eq_getElem_cons hb, brs_get P ws i hb]
  unfold brL brN
  rw [if_neg hne, if_neg hne, bpGo]
  simp only [data_B, Int.toNat_natCast]
  have hg : ((stayQ P ws).take i).getD (placeL (stayQ P ws) (upL P ws ((stayQ P ws).getD i []))) [] = upL P ws ((stayQ P ws).getD i []) := by
   rw [List.getD_eq_getElem?_getD, List.getElem?_take_of_lt u1, ← List.getD_eq_getElem?_getD, u2]
  rw [hg, hup, if_pos ⟨by omega, by rw [List.length_take]; omega, by rw [List.length_drop]; have := (wordL_iff.1 hw).2; omega, hw⟩]
  have := ih (i + 1) (by omega) (by omega)
  rwa [take_succ_getD [] hi] at this
theorem bpN_tr {ws : List Txt} (h : OkW ws) (hl : (stayQ (preL ws) ws).length ≤ 81) : bpN (brs (preL ws) ws) = some (stayQ (preL ws) ws) := by
 obtain ⟨z1, z2⟩ := stayQ_zero ws (asc_preL ws) (clo_preL ws)
 have := bpGo_tr ws (asc_preL ws) (clo_preL ws) (fun p hp => preL_word h.word hp) ((stayQ (preL ws) ws).length - 1) 1 (by omega) (by omega)
 unfold bpN
 rw [if_pos (by rw [brs_length]; omega)]
 have e : (stayQ (preL ws) ws).take 1 = [[]] := by rw [take_succ_getD [] z1, z2]; rfl
 rwa [e] at this
def bwGo : List Bd → List Txt → List Txt
 | b :: r, t :: ps => if b.f2 = true then t :: bwGo r ps else bwGo r ps
 | _, _ => []
theorem bwGo_mem : ∀ (N : List Bd) (ps : List Txt) (w : Txt), w ∈ bwGo N ps → w ∈ ps
 | [], _, _, h => by simp [bwGo] at h
 | b :: r, [], _, h => by simp [bwGo] at h
 | b :: r, t :: ps, w, h => by
  rw [bwGo] at h
  split at h
  ·
   rcases List.mem_cons.1 h with rfl | h
   ·
    exact List.mem_cons_self
   ·
    exact List.mem_cons_of_mem _ (bwGo_mem r ps w h)
  ·
   exact List.mem_cons_of_mem _ (bwGo_mem r ps w h)
theorem bwGo_len : ∀ (N : List Bd) (ps : List Txt), (bwGo N ps).length ≤ N.length
 | [], _ => by simp [bwGo]
 | b :: r, [] => by simp [bwGo]
 | b :: r, t :: ps => by
  have := bwGo_len r ps
  rw [bwGo]
  split <;> simp <;> omega
theorem bwGo_tr (P ws : List Txt) : ∀ Q : List Txt, bwGo (Q.map fun p => brN (brL P ws p)) Q = Q.filter fun p => decide (p ∈ ws)
 | [] => rfl
 | p :: Q => by
  rw [List.map_cons, bwGo, bwGo_tr P ws Q, List.filter_cons]
  rfl
theorem brs_map (P ws : List Txt) : brs P ws = (stayQ P ws).map fun p => brN (brL P ws p) := by
 unfold brs brsL
 rw [List.map_map]
 rfl
theorem ofWords_ev (W : List Txt) (hW : W.all wordL = true) (hl : W.length ≤ 1000000) : Ev (fun k => impl_ofWords.f k (W.map B)) (if (setL W).length ≤ 40 then (trN (preL (setL W)) (setL W), true) else ([], false)) := by
 unfold impl_ofWords.f
 rw [set_eq W (by omega)]
 refine Ev.some_bind ?_
 rw [List.length_map]
 by_cases h : (setL W).length ≤ 40
 ·
  rw [if_pos h]
  exact Ev.ifF (by omega) (Ev.bind (trieOf_ev (okW_setL hW h)) (Ev.now _))
 ·
  rw [if_neg h]
  exact Ev.ifT (by omega) (Ev.now _)
def IsPr (N : List Bd) : Prop := ∃ ws, OkW ws ∧ N = brs (preL ws) ws ∧ N.length ≤ 81
theorem IsPr.pos {N : List Bd} (h : IsPr N) : 1 ≤ N.length ∧ N.length ≤ 81 := by
 obtain ⟨ws, h, rfl, h2⟩ := h
 refine ⟨?_, h2⟩
 rw [brs_length]
 exact (stayQ_zero ws (asc_preL ws) (clo_preL ws)).1
theorem open_loop (N : List Bd) (ps : List Txt) (hN : N.length ≤ 1000000) (hp : ps.length = N.length) (r : List S73 × Bool)
  (hr : Ev (fun k => impl_Pressed_open.l0 k (ps.map B) ((bwGo N ps).map B) N (N.length : Int) (N.length : Int) N) r) : ∀ (d i : Nat) (acc : List Txt), i + d = N.length → acc.length ≤ i → acc ++ bwGo (N.drop i) (ps.drop i) = bwGo N ps →
  Ev (fun k => impl_Pressed_open.l0 k (ps.map B) (acc.map B) N (N.length : Int) (i : Int) N) r := by
 intro d
 induction d with
 | zero =>
  intro i acc h1 h2 h3
  obtain rfl : i = N.length := by omega
  rw [List.drop_of_length_le (Nat.le_refl _)] at h3
  rw [show acc = bwGo N ps from by rw [← h3]; simp [bwGo]]
  exact hr
 | succ d ih =>
  intro i acc h1 h2 h3
  have hi : i < N.length := by omega
  have hpi : i < ps.length := by omega
  refine Ev.step (fun k => impl_Pressed_open.l0.eq_2 ..) (Ev.ifT (by omega) (Ev.ifT (by omega) (Ev.ifT (by omega) ?_)))
  rw [List.drop_eq_getElem_cons hi, drop_cons_getD [] hpi, bwGo] at h3
  rw [rd_getB N i hi, wrap64_succ i (by omega)]
  by_cases hf : N[i].f2 = true
  ·
   rw [if_pos hf] at h3
   refine Ev.ifT hf (Ev.ifT (by rw [List.length_map]; omega) (Ev.ifT (by rw [List.length_map]; omega) ?_))
   rw [rdB ps i hpi]
   have := ih (i + 1) (acc ++ [ps.getD i []]) (by omega) (by simp; omega) (by rw [List.append_assoc]; exact h3)
   rw [List.map_append, List.map_singleton] at this
   exact this
  ·
   rw [if_neg hf] at h3
   exact Ev.ifF hf (ih (i + 1) acc (by omega) (by omega) h3)
theorem open_ev (N : List Bd) : (∀ ws, OkW ws → N = brs (preL ws) ws → N.length ≤ 81 → Ev (fun k => impl_Pressed_open.f k N) (trN (preL ws) ws, true)) ∧ (¬ IsPr N → Ev (fun k => impl_Pressed_open.f k N) ([], false)) := by
 have fin : ∀ ps W : List Txt, W.all wordL = true → W.length ≤ 1000000 → N.length ≤ 81 → Ev (fun k => impl_Pressed_open.l0 k (ps.map B) (W.map B) N (N.length : Int) (N.length : Int) N) (if (setL W).length ≤ 40 ∧ brs (preL (setL W)) (setL W) = N then (trN (preL (setL W)) (setL W), true) else ([], false)) := by
  intro ps W hW hl hN
  have h1 := ofWords_ev W hW hl
  refine Ev.step (fun k => impl_Pressed_open.l0.eq_2 ..) (Ev.ifF (by omega) (Ev.bind h1 ?_))
  by_cases h40 : (setL W).length ≤ 40
  ·
   rw [if_pos h40]
   have hok := okW_setL hW h40
   have hlen : (brs (preL (setL W)) (setL W)).length ≤ 4611686018427387903 := by
    rw [brs_length]
    have h2 : (stayQ (preL (setL W)) (setL W)).length ≤ (preL (setL W)).length := List.length_filter_le _ _
    have := hok.pre
    omega
   refine Ev.ifT rfl (Ev.bind (press_ev hok) (Ev.bind (equalB_ev _ _ hlen) ?_))
   by_cases he : brs (preL (setL W)) (setL W) = N
   ·
    rw [if_pos (show (setL W).length ≤ 40 ∧ brs (preL (setL W)) (setL W) = N from ⟨h40, he⟩)]
    exact Ev.ifT (decide_eq_true he) (Ev.now _)
   ·
    rw [if_neg (show ¬ ((setL W).length ≤ 40 ∧ brs (preL (setL W)) (setL W) = N) from fun h => he h.2)]
    exact Ev.ifF (by rw [decide_eq_false he]; exact Bool.false_ne_true) (Ev.now _)
  ·
   rw [if_neg h40, if_neg (show ¬ ((setL W).length ≤ 40 ∧ brs (preL (setL W)) (setL W) = N) from fun h => h40 h.1)]
   exact Ev.ifF Bool.false_ne_true (Ev.now _)
 have hpre := bprefixes_ev N
 constructor
 ·
  intro ws h he hl
  have hl2 : (stayQ (preL ws) ws).length ≤ 81 := by rw [← brs_length, ← he]; exact hl
  unfold impl_Pressed_open.f
  rw [he] at hpre
  rw [bpN_tr h hl2] at hpre
  rw [he]
  refine Ev.bind hpre (Ev.ifT rfl ?_)
  have hb : bwGo (brs (preL ws) ws) (stayQ (preL ws) ws) = ws := by rw [brs_map, bwGo_tr, filter_stayQ h.asc]
  have h1 := fin (stayQ (preL ws) ws) ws (List.all_eq_true.2 h.word) (by have := h.len; omega) hl
  rw [setL_of_asc h.asc, if_pos ⟨h.len, he.symm⟩, he] at h1
  refine open_loop (brs (preL ws) ws) (stayQ (preL ws) ws) (by rw [brs_length]; omega) (by rw [brs_length]) _ (by rw [hb]; exact h1) (brs (preL ws) ws).length 0 [] (by omega) (by simp) (by simp)
 ·
  intro hn
  unfold impl_Pressed_open.f
  refine Ev.bind hpre ?_
  cases hc : bpN N with
  | none => exact Ev.ifF Bool.false_ne_true (Ev.now _)
  | some ps =>
   refine Ev.ifT rfl ?_
   unfold bpN at hc
   by_cases hl : 1 ≤ N.length ∧ N.length ≤ 81
   ·
    rw [if_pos hl] at hc
    obtain ⟨h1, h2⟩ := bpGo_ok _ _ _ hc (by simp; rfl)
    have h3 : ps.length = N.length := by rw [h2, List.length_drop, List.length_singleton]; omega
    have hW : (bwGo N ps).all wordL = true := List.all_eq_true.2 fun w hw => h1 w (bwGo_mem _ _ _ hw)
    have hWl := bwGo_len N ps
    have h4 := fin ps (bwGo N ps) hW (by omega) hl.2
    rw [if_neg] at h4
    ·
     exact open_loop N ps (by omega) h3 _ h4 N.length 0 [] (by omega) (by simp) (by simp)
    ·
     rintro ⟨a1, a2⟩
     exact hn ⟨_, okW_setL hW a1, a2.symm, hl.2⟩
   ·
    rw [if_neg hl] at hc; cases hc
theorem wordL_suf {p s : Txt} (h : wordL (p ++ s) = true) : wordL s = true := by
 obtain ⟨h1, h2⟩ := wordL_iff.1 h
 rw [List.length_append] at h2
 exact wordL_iff.2 ⟨fun c hc => h1 c (List.mem_append.2 (.inr hc)), by omega⟩
theorem l4Prefix_ex (N : List Bd) (hN : ∀ b ∈ N, b.f0.size ≤ 1000000000) : ∀ (d : Nat) (x1 : Int) (s : Txt), x1.toNat ≤ d → x1 < N.length → s.length ≤ 24 → ∃ r : Txt, r.length ≤ 24 ∧ Ev (fun k => spec_l4Prefix.l0 k x1 (B s) N) (B r) := by
 have last : ∀ (x1 : Int) (s : Txt), s.length ≤ 24 → ∃ r : Txt, r.length ≤ 24 ∧ Ev (fun k => spec_l4Prefix.j1 k x1 (B s) false N) (B r) := by
  intro x1 s hs
  by_cases h : x1 = 0
  ·
   exact ⟨s, hs, Ev.step (fun k => spec_l4Prefix.j1.eq_2 ..) (Ev.ifF Bool.false_ne_true (Ev.ifT h (Ev.now _)))⟩
  ·
   exact ⟨[63], by simp, Ev.step (fun k => spec_l4Prefix.j1.eq_2 ..) (Ev.ifF Bool.false_ne_true (Ev.ifF h (Ev.now _)))⟩
 intro d
 induction d with
 | zero =>
  intro x1 s h1 h2 h3
  obtain ⟨r, hr, he⟩ := last x1 s h3
  exact ⟨r, hr, Ev.step (fun k => spec_l4Prefix.l0.eq_2 ..) (Ev.ifF (by omega) he)⟩
 | succ d ih =>
  intro x1 s h1 h2 h3
  by_cases h0 : x1 > 0
  ·
   by_cases hs : s.length ≤ 12
   ·
    obtain ⟨m, hm⟩ : ∃ m : Nat, x1 = (m : Int) := ⟨x1.toNat, by omega⟩
    subst hm
    have hml : m < N.length := by omega
    have hsz := hN _ (List.getElem_mem hml)
    obtain ⟨t, ht⟩ := exB N[m].f0
    rw [ht, size_B] at hsz
    have go : ∀ r : ByteArray, Ev (fun k => if (N[m].f1) ≥ (m : Int) then (some (⟨#[63]⟩ : ByteArray)) else (if (N[m].f0).toList = ([] : List UInt8) then (some (⟨#[63]⟩ : ByteArray)) else ((spec_l2Word.f k (N[m].f0)).bind fun t109 => (if t109 = true then (if (N[m].f0).size + (B s).size ≤ 9223372036854775807 then (spec_l4Prefix.l0 k (N[m].f1) ((N[m].f0) ++ B s) N) else (none)) else (some (⟨#[63]⟩ : ByteArray)))))) r → Ev (fun k => spec_l4Prefix.l0 k (m : Int) (B s) N) r := by
     intro r hr
     refine Ev.step (fun k => spec_l4Prefix.l0.eq_2 ..) (Ev.ifT h0 ?_)
     rw [size_B, decide_eq_true (show (s.length : Int) ≤ 12 by omega)]
     refine Ev.step (fun k => spec_l4Prefix.j1.eq_2 ..) (Ev.ifT rfl (Ev.ifT (by omega) (Ev.ifT (by omega) ?_)))
     rw [rd_getB N m hml]
     exact hr
    by_cases hp : N[m].f1 ≥ (m : Int)
    ·
     exact ⟨[63], by simp, go _ (Ev.ifT hp (Ev.now _))⟩
    ·
     by_cases he : t = []
     ·
      refine ⟨[63], by simp, go _ (Ev.ifF hp (Ev.ifT ?_ (Ev.now _)))⟩
      rw [ht, toList_B]; exact he
     ·
      have hwd := l2Word_ev t (by omega)
      by_cases hw : wordL t = true
      ·
       rw [hw] at hwd
       have h12 := (wordL_iff.1 hw).2
       obtain ⟨r, hr, hev⟩ := ih N[m].f1 (t ++ s) (by omega) (by omega) (by rw [List.length_append]; omega)
       refine ⟨r, hr, go _ (Ev.ifF hp (Ev.ifF ?_ ?_))⟩
       ·
        rw [ht, toList_B]; exact he
       ·
        rw [ht, append_B, size_B, size_B]
        exact Ev.bind hwd (Ev.ifT rfl (Ev.ifT (by omega) hev))
      ·
       have hwf : wordL t = false := by simpa using hw
       rw [hwf] at hwd
       refine ⟨[63], by simp, go _ (Ev.ifF hp (Ev.ifF ?_ ?_))⟩
       ·
        rw [ht, toList_B]; exact he
       ·
        rw [ht]
        exact Ev.bind hwd (Ev.ifF Bool.false_ne_true (Ev.now _))
   ·
    obtain ⟨r, hr, he⟩ := last x1 s h3
    refine ⟨r, hr, Ev.step (fun k => spec_l4Prefix.l0.eq_2 ..) (Ev.ifT h0 ?_)⟩
    rw [size_B, decide_eq_false (show ¬ (s.length : Int) ≤ 12 by omega)]
    exact he
  ·
   obtain ⟨r, hr, he⟩ := last x1 s h3
   exact ⟨r, hr, Ev.step (fun k => spec_l4Prefix.l0.eq_2 ..) (Ev.ifF h0 he)⟩
theorem l4Prefix_up {P : List Txt} (ws : List Txt) (hA : Asc P) (hC : Clo P) (hW : ∀ p ∈ P, wordL p = true) : ∀ (n : Nat) (t s : Txt), t.length ≤ n → t ∈ stayQ P ws → (t ++ s).length ≤ 12 →
  Ev (fun k => spec_l4Prefix.l0 k ((placeL (stayQ P ws) t : Nat) : Int) (B s) (brs P ws)) (B (t ++ s)) := by
 have hQA := asc_stayQ ws hA
 obtain ⟨q1, q2⟩ := stayQ_zero ws hA hC
 have hnil : ∀ s : Txt, Ev (fun k => spec_l4Prefix.l0 k ((placeL (stayQ P ws) [] : Nat) : Int) (B s) (brs P ws)) (B ([] ++ s)) := by
  intro s
  have h0 : placeL (stayQ P ws) [] = 0 := by have := placeL_get hQA q1; rwa [q2] at this
  rw [h0, List.nil_append]
  exact Ev.step (fun k => spec_l4Prefix.l0.eq_2 ..) (Ev.ifF (by omega) (Ev.step (fun k => spec_l4Prefix.j1.eq_2 ..) (Ev.ifF Bool.false_ne_true (Ev.ifT rfl (Ev.now _)))))
 intro n
 induction n with
 | zero =>
  intro t s h1 h2 h3
  have := List.eq_nil_of_length_eq_zero (Nat.le_zero.1 h1)
  subst this
  exact hnil s
 | succ n ih =>
  intro t s h1 h2 h3
  by_cases hne : t = []
  ·
   subst hne; exact hnil s
  ·
   obtain ⟨z1, z2⟩ := placeL_mem h2
   have h0 : 0 < placeL (stayQ P ws) t := by
    rcases Nat.eq_zero_or_pos (placeL (stayQ P ws) t) with e | e
    ·
     rw [e, q2] at z2; exact absurd z2.symm hne
    ·
     exact e
   have hP := (mem_stayQ.1 h2).1
   obtain ⟨u1, u2, u3, u4⟩ := upL_spec ws hC hP hne
   have hpar := stayQ_parent ws hA hC z1 h0
   rw [z2] at hpar
   have hup := up_append ws hC hP hne
   have hdn := drop_ne ws hC hP hne
   rw [List.length_append] at h3
   have hwd : wordL (t.drop (upL P ws t).length) = true := by
    have := hW t hP
    rw [← hup] at this
    exact wordL_suf this
   have hl := l2Word_ev (t.drop (upL P ws t).length) (by rw [List.length_drop]; omega)
   rw [hwd] at hl
   refine Ev.step (fun k => spec_l4Prefix.l0.eq_2 ..) (Ev.ifT (by omega) ?_)
   rw [size_B, decide_eq_true (show (s.length : Int) ≤ 12 by omega)]
   refine Ev.step (fun k => spec_l4Prefix.j1.eq_2 ..) (Ev.ifT rfl (Ev.ifT (by omega) (Ev.ifT (by rw [brs_length]; omega) ?_)))
   rw [rdBr P ws _ z1, z2]
   unfold brN brL
   rw [if_neg hne, if_neg hne]
   refine Ev.ifF (by show ¬ ((placeL (stayQ P ws) (upL P ws t) : Nat) : Int) ≥ ((placeL (stayQ P ws) t : Nat) : Int); omega) (Ev.ifF (by rw [toList_B]; exact hdn) (Ev.bind hl (Ev.ifT rfl (Ev.ifT (by rw [size_B, size_B, List.length_drop]; omega) ?_))))
   rw [append_B]
   have := ih (upL P ws t) (t.drop (upL P ws t).length ++ s) (by omega) (up_stayQ ws hC h2 hne) (by rw [← List.append_assoc, hup, List.length_append]; omega)
   rw [← List.append_assoc, hup] at this
   exact this
theorem l4Prefix_ev {ws : List Txt} (h : OkW ws) {i : Nat} (hi : i < (stayQ (preL ws) ws).length) : Ev (fun k => spec_l4Prefix.f k (brs (preL ws) ws) (i : Int)) (B ((stayQ (preL ws) ws).getD i [])) := by
 have hm := getD_mem hi
 have hW := preL_word h.word (mem_stayQ.1 hm).1
 have := l4Prefix_up ws (asc_preL ws) (clo_preL ws) (fun p hp => preL_word h.word hp) _ ((stayQ (preL ws) ws).getD i []) [] (Nat.le_refl _) hm (by rw [List.append_nil]; exact (wordL_iff.1 hW).2)
 rw [placeL_get (asc_stayQ ws (asc_preL ws)) hi, List.append_nil] at this
 exact this
theorem l4Open_fin (N : List Bd) (hN : N.length ≤ 81) (W : List Txt) (hl : W.length ≤ 81) (hw : ∀ w ∈ W, w.length ≤ 24) :
  Ev (fun k => spec_l4Open.l0 k (W.map B) (N.length : Int) N) (if W.all wordL = true ∧ (setL W).length ≤ 40 ∧ brs (preL (setL W)) (setL W) = N then (trN (preL (setL W)) (setL W), true) else ([], false)) := by
 refine Ev.step (fun k => spec_l4Open.l0.eq_2 ..) (Ev.ifF (by omega) (Ev.bind (l2Set_ev (b := 24) W (by omega) hw) ?_))
 by_cases ha : W.all wordL = true
 ·
  rw [if_pos ha]
  by_cases h40 : (setL W).length ≤ 40
  ·
   have hok := okW_setL ha h40
   have hlen : (brs (preL (setL W)) (setL W)).length ≤ 4611686018427387903 := by
    rw [brs_length]
    have h2 : (stayQ (preL (setL W)) (setL W)).length ≤ (preL (setL W)).length := List.length_filter_le _ _
    have := hok.pre
    omega
   refine Ev.ifT (by simpa using h40) (Ev.bind (l2Of_ev hok) (Ev.bind (l4Press_ev hok) (Ev.bind (l4Same_ev _ _ hlen) ?_)))
   by_cases he : brs (preL (setL W)) (setL W) = N
   ·
    rw [if_pos (show W.all wordL = true ∧ (setL W).length ≤ 40 ∧ brs (preL (setL W)) (setL W) = N from ⟨ha, h40, he⟩)]
    exact Ev.ifT (decide_eq_true he) (Ev.now _)
   ·
    rw [if_neg (show ¬ (W.all wordL = true ∧ (setL W).length ≤ 40 ∧ brs (preL (setL W)) (setL W) = N) from fun h => he h.2.2)]
    exact Ev.ifF (by rw [decide_eq_false he]; exact Bool.false_ne_true) (Ev.now _)
  ·
   rw [if_neg (show ¬ (W.all wordL = true ∧ (setL W).length ≤ 40 ∧ brs (preL (setL W)) (setL W) = N) from fun h => h40 h.2.1)]
   exact Ev.ifF (by simpa using h40) (Ev.now _)
 ·
  rw [if_neg ha, if_neg (show ¬ (W.all wordL = true ∧ (setL W).length ≤ 40 ∧ brs (preL (setL W)) (setL W) = N) from fun h => ha h.1)]
  exact Ev.ifF Bool.false_ne_true (Ev.now _)
theorem l4Open_ex (N : List Bd) (hN : N.length ≤ 81) (hb : ∀ b ∈ N, b.f0.size ≤ 1000000000) (hn : ¬ IsPr N) : ∀ (d i : Nat) (acc : List Txt), i + d = N.length → acc.length ≤ i → (∀ w ∈ acc, w.length ≤ 24) →
  Ev (fun k => spec_l4Open.l0 k (acc.map B) (i : Int) N) ([], false) := by
 intro d
 induction d with
 | zero =>
  intro i acc h1 h2 h3
  obtain rfl : i = N.length := by omega
  have := l4Open_fin N hN acc (by omega) h3
  rw [if_neg] at this
  ·
   exact this
  ·
   rintro ⟨a1, a2, a3⟩
   exact hn ⟨_, okW_setL a1 a2, a3.symm, hN⟩
 | succ d ih =>
  intro i acc h1 h2 h3
  have hi : i < N.length := by omega
  refine Ev.step (fun k => spec_l4Open.l0.eq_2 ..) (Ev.ifT (by omega) (Ev.ifT (by omega) ?_))
  rw [wrap64_succ i (by omega)]
  by_cases hf : (rd_T56 N (i : Int)).f2 = true
  ·
   obtain ⟨r, hr, he⟩ := l4Prefix_ex N hb i (i : Int) [] (by omega) (by omega) (by simp)
   have := ih (i + 1) (acc ++ [r]) (by omega) (by simp; omega) (fun w hw => by
    rcases List.mem_append.1 hw with hw | hw
    ·
     exact h3 w hw
    ·
     rw [List.mem_singleton.1 hw]; exact hr)
   rw [List.map_append, List.map_singleton] at this
   exact Ev.ifT hf (Ev.bind he (Ev.ifT (by rw [List.length_map]; omega) this))
  ·
   exact Ev.ifF hf (ih (i + 1) acc (by omega) (by omega) h3)
theorem l4Open_tr {ws : List Txt} (h : OkW ws) (hl : (stayQ (preL ws) ws).length ≤ 81) : ∀ (d i : Nat) (acc : List Txt), i + d = (stayQ (preL ws) ws).length → acc.length ≤ i → acc ++ ((stayQ (preL ws) ws).drop i).filter (fun p => decide (p ∈ ws)) = ws →
  Ev (fun k => spec_l4Open.l0 k (acc.map B) (i : Int) (brs (preL ws) ws)) (trN (preL ws) ws, true) := by
 have h40 := h.len
 intro d
 induction d with
 | zero =>
  intro i acc h1 h2 h3
  rw [List.drop_of_length_le (by omega), List.filter_nil, List.append_nil] at h3
  subst h3
  have := l4Open_fin (brs (preL acc) acc) (by rw [brs_length]; exact hl) acc (by omega) (fun w hw => by have := h.le w hw; omega)
  rw [setL_of_asc h.asc, if_pos ⟨List.all_eq_true.2 h.word, h.len, rfl⟩, brs_length] at this
  rw [show i = (stayQ (preL acc) acc).length from by omega]
  exact this
 | succ d ih =>
  intro i acc h1 h2 h3
  have hi : i < (stayQ (preL ws) ws).length := by omega
  rw [drop_cons_getD [] hi, List.filter_cons] at h3
  refine Ev.step (fun k => spec_l4Open.l0.eq_2 ..) (Ev.ifT (by rw [brs_length]; omega) (Ev.ifT (by omega) ?_))
  rw [wrap64_succ i (by omega), rdBr _ ws i hi]
  by_cases hm : (stayQ (preL ws) ws).getD i [] ∈ ws
  ·
   rw [if_pos (decide_eq_true hm)] at h3
   have := ih (i + 1) (acc ++ [(stayQ (preL ws) ws).getD i []]) (by omega) (by simp; omega) (by rw [List.append_assoc]; exact h3)
   rw [List.map_append, List.map_singleton] at this
   exact Ev.ifT (decide_eq_true hm) (Ev.bind (l4Prefix_ev h hi) (Ev.ifT (by rw [List.length_map]; omega) this))
  ·
   rw [if_neg (by rw [decide_eq_false hm]; exact Bool.false_ne_true)] at h3
   exact Ev.ifF (by show ¬ decide _ = true; rw [decide_eq_false hm]; exact Bool.false_ne_true) (ih (i + 1) acc (by omega) (by omega) h3)
theorem open_both (N : List Bd) (hb : ∀ b ∈ N, b.f0.size ≤ 1000000000) :
  (∃ ws, OkW ws ∧ N = brs (preL ws) ws ∧ (stayQ (preL ws) ws).length ≤ 81 ∧ Ev (fun k => spec_l4Open.f k N) (trN (preL ws) ws, true) ∧ Ev (fun k => impl_Pressed_open.f k N) (trN (preL ws) ws, true)) ∨
  (Ev (fun k => spec_l4Open.f k N) ([], false) ∧ Ev (fun k => impl_Pressed_open.f k N) ([], false)) := by
 obtain ⟨o1, o2⟩ := open_ev N
 by_cases hn : IsPr N
 ·
  have hpos := hn.pos
  obtain ⟨ws, h, he, hl⟩ := hn
  have hl2 : (stayQ (preL ws) ws).length ≤ 81 := by rw [← brs_length, ← he]; exact hl
  refine .inl ⟨ws, h, he, hl2, ?_, o1 ws h he hl⟩
  unfold spec_l4Open.f
  simp only [l1In_eq]
  rw [decide_eq_true (show (1 : Int) ≤ (N.length : Int) ∧ (N.length : Int) ≤ 81 by omega), he]
  exact Ev.some_bind (Ev.ifT rfl (l4Open_tr h hl2 (stayQ (preL ws) ws).length 0 [] (by omega) (by simp) (by rw [List.drop_zero, List.nil_append]; exact filter_stayQ h.asc)))
 ·
  refine .inr ⟨?_, o2 hn⟩
  unfold spec_l4Open.f
  simp only [l1In_eq]
  by_cases hl : (1 : Int) ≤ (N.length : Int) ∧ (N.length : Int) ≤ 81
  ·
   rw [decide_eq_true hl]
   exact Ev.some_bind (Ev.ifT rfl (l4Open_ex N (by omega) hb hn N.length 0 [] (by omega) (by simp) (by simp)))
  ·
   rw [decide_eq_false hl]
   exact Ev.some_bind (Ev.ifF Bool.false_ne_true (Ev.now _))
def toB (l : List S61) : List Bd := l.map fun x => ⟨x.f0, x.f1, x.f2⟩
theorem toB_length (l : List S61) : (toB l).length = l.length := by simp [toB]
theorem rd_getL (N : List S61) (i : Nat) (h : i < N.length) : rd_T61 N (i : Int) = N[i] := by
 unfold rd_T61
 rw [Int.toNat_natCast, getD_lt _ h]
theorem szP_loop (l : List S61) (hl : l.length ≤ 1048576) (hs : ∀ x ∈ l, x.f0.size ≤ 9223372036854775807) : ∀ (d i : Nat) (v : Int), i + d = l.length → 0 ≤ v → v ≤ 1048576 → ∃ r : Int, Ev (fun k => laws_szBranchS.l0 k l v (i : Int)) r ∧ r ≤ 1048576 ∧ (0 ≤ r → ∀ x ∈ l.drop i, x.f0.size ≤ 1048576) := by
 intro d
 induction d with
 | zero =>
  intro i v h h0 h1
  rw [List.drop_of_length_le (by omega)]
  exact ⟨v, Ev.step (fun k => laws_szBranchS.l0.eq_2 ..) (Ev.ifF (by omega) (Ev.now _)), h1, fun _ x hx => by simp at hx⟩
 | succ d ih =>
  intro i v h h0 h1
  have hi : i < l.length := by omega
  have hx := hs _ (List.getElem_mem hi)
  rw [List.drop_eq_getElem_cons hi]
  have go : ∀ r : Int, Ev (fun k => (laws_szBranch.f (l[i].f0) (l[i].f1) (l[i].f2) v).bind fun t103 => (if t103 < 0 then (some (-1)) else (laws_szBranchS.l0 k l t103 (wrap64 ((i : Int) + 1))))) r → Ev (fun k => laws_szBranchS.l0 k l v (i : Int)) r := by
   intro r hr
   refine Ev.step (fun k => laws_szBranchS.l0.eq_2 ..) (Ev.ifT (by omega) (Ev.ifT (by omega) ?_))
   rw [rd_getL l i hi]
   exact hr
  have hw : wrap64 (v - (l[i].f0.size : Int)) = v - (l[i].f0.size : Int) := wrap64_id (by omega) (by omega)
  by_cases hn : v - (l[i].f0.size : Int) < 0
  ·
   refine ⟨-1, go _ ?_, by omega, fun h => by omega⟩
   unfold laws_szBranch.f
   rw [hw, if_pos hn]
   exact Ev.some_bind (Ev.ifT (by omega) (Ev.now _))
  ·
   obtain ⟨r, r1, r2, r3⟩ := ih (i + 1) (v - (l[i].f0.size : Int)) (by omega) (by omega) (by omega)
   refine ⟨r, go _ ?_, r2, fun h x hx => ?_⟩
   ·
    unfold laws_szBranch.f
    rw [hw, if_neg hn]
    refine Ev.some_bind (Ev.ifF (by omega) ?_)
    rw [wrap64_succ i (by omega)]
    exact r1
   ·
    rcases List.mem_cons.1 hx with rfl | hx
    ·
     omega
    ·
     exact r3 h x hx
theorem szP_ev (l : List S61) (hl : l.length ≤ 9223372036854775807) (hs : ∀ x ∈ l, x.f0.size ≤ 9223372036854775807) : ∃ r : Int, Ev (fun k => laws_szPressed.f k l 1048576) r ∧ (0 ≤ r → l.length ≤ 1048576 ∧ ∀ x ∈ l, x.f0.size ≤ 1048576) := by
 have fin : ∀ r : Int, Ev (fun k => laws_szBranchS.f k l 1048576) r → Ev (fun k => laws_szPressed.f k l 1048576) (if r < 0 then -1 else r) := by
  intro r hr
  unfold laws_szPressed.f
  refine Ev.bind hr ?_
  by_cases h : r < 0
  ·
   have e : (if r < 0 then (-1 : Int) else r) = -1 := if_pos h
   rw [e]; exact Ev.ifT h (Ev.now _)
  ·
   have e : (if r < 0 then (-1 : Int) else r) = r := if_neg h
   rw [e]; exact Ev.ifF h (Ev.now _)
 have hw : wrap64 (1048576 - (l.length : Int)) = 1048576 - (l.length : Int) := wrap64_id (by omega) (by omega)
 by_cases h : l.length ≤ 1048576
 ·
  obtain ⟨r, r1, r2, r3⟩ := szP_loop l h hs l.length 0 (1048576 - (l.length : Int)) (by omega) (by omega) (by omega)
  refine ⟨_, fin r ?_, fun h0 => ⟨h, ?_⟩⟩
  ·
   unfold laws_szBranchS.f
   rw [hw]
   exact Ev.ifF (by omega) r1
  ·
   rw [List.drop_zero] at r3
   refine r3 ?_
   by_cases hr : r < 0
   ·
    rw [if_pos hr] at h0; omega
   ·
    omega
 ·
  refine ⟨_, fin (-1) ?_, fun h0 => ?_⟩
  ·
   unfold laws_szBranchS.f
   rw [hw]
   exact Ev.ifT (by omega) (Ev.now _)
  ·
   rw [if_pos (by omega)] at h0; omega
theorem toBranchS_loop (l : List S61) (hl : l.length ≤ 1048576) : ∀ (d i : Nat), i + d = l.length → Ev (fun k => laws_toBranchS.l0 k l ((toB l).take i ++ List.replicate ((toB l).length - i) z56) (i : Int)) (toB l) := by
 intro d
 induction d with
 | zero =>
  intro i h
  rw [List.take_of_length_le (by rw [toB_length]; omega), show (toB l).length - i = 0 from by rw [toB_length]; omega, List.replicate_zero, List.append_nil]
  exact Ev.step (fun k => laws_toBranchS.l0.eq_2 ..) (Ev.ifF (by omega) (Ev.now _))
 | succ d ih =>
  intro i h
  have hi : i < l.length := by omega
  have hi2 : i < (toB l).length := by rw [toB_length]; exact hi
  have hlen : ((toB l).take i ++ List.replicate ((toB l).length - i) z56).length = l.length := by
   rw [List.length_append, List.length_take, List.length_replicate, toB_length]; omega
  refine Ev.step (fun k => laws_toBranchS.l0.eq_2 ..) (Ev.ifT (by omega) (Ev.ifT (by omega) ?_))
  unfold laws_toBranch.f
  refine Ev.some_bind (Ev.ifT (by rw [hlen]; omega) ?_)
  have hx : (⟨(rd_T61 l (i : Int)).f0, (rd_T61 l (i : Int)).f1, (rd_T61 l (i : Int)).f2⟩ : Bd) = (toB l).getD i z56 := by
   rw [rd_getL l i hi, getD_lt _ hi2]
   simp only [toB, List.getElem_map]
  rw [hx, Int.toNat_natCast, fill_set _ _ _ hi2, wrap64_succ i (by omega)]
  exact ih (i + 1) (by omega)
theorem toPressed_ev (l : List S61) (hl : l.length ≤ 1048576) : Ev (fun k => laws_toPressed.f k l) (toB l) := by
 unfold laws_toPressed.f laws_toBranchS.f
 refine Ev.bind (f := fun k t => some t) (Ev.ifT (by omega) (Ev.ifT (by omega) ?_)) (Ev.now _)
 have := toBranchS_loop l hl l.length 0 (by omega)
 rw [List.take_zero, List.nil_append, toB_length, Nat.sub_zero] at this
 exact this
theorem eqBranch_self (a : ByteArray) (b : Int) (c : Bool) : laws_eqBranch.f a b c a b c = some true := by
 unfold laws_eqBranch.f
 rw [if_pos rfl, if_pos rfl, if_neg (by simp)]
theorem eqBranchS_loop (N : List Bd) (hN : N.length ≤ 4611686018427387903) : ∀ (d i : Nat), i + d = N.length → Ev (fun k => laws_eqBranchS.l0 k N N (i : Int)) true := by
 intro d
 induction d with
 | zero => intro i h; exact Ev.step (fun k => laws_eqBranchS.l0.eq_2 ..) (Ev.ifF (by omega) (Ev.now _))
 | succ d ih =>
  intro i h
  refine Ev.step (fun k => laws_eqBranchS.l0.eq_2 ..) (Ev.ifT (by omega) (Ev.ifT (by omega) (Ev.ifT (by omega) ?_)))
  rw [eqBranch_self]
  refine Ev.some_bind (Ev.ifT rfl ?_)
  rw [wrap64_succ i (by omega)]
  exact ih (i + 1) (by omega)
theorem eqPressed_ev (N : List Bd) (hN : N.length ≤ 4611686018427387903) : Ev (fun k => laws_eqPressed.f k N N) true := by
 unfold laws_eqPressed.f laws_eqBranchS.f
 exact Ev.bind (f := fun k t => if t = true then some true else some false) (Ev.ifT rfl (eqBranchS_loop N hN N.length 0 (by omega))) (Ev.ifT rfl (Ev.now _))
theorem toB_small {l : List S61} (h : ∀ x ∈ l, x.f0.size ≤ 1048576) : ∀ b ∈ toB l, b.f0.size ≤ 1000000000 := by
 intro b hb
 obtain ⟨x, hx, rfl⟩ := List.mem_map.1 hb
 have := h x hx
 show x.f0.size ≤ 1000000000
 omega
end Go.Proofs.YtfhffcefpnkllaaDoor.L
