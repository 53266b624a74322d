/-
  Part 5 of the proof that FnExactSavedNodes returns true for every input: the functions that it reaches, each with its contract, and the law.
  Conditions: those of the given statement, no others.
-/
import Derived.Test.YtnnkedeohfbkeaaCFnExactSavedNodesW0
import Derived.Test.YtnnkedeohfbkeaaRows
import Derived.WalkKit
import Derived.ProofKit
import Derived.OpenShut
import Derived.ShutString
import Derived.ChangeOld
import Derived.Below
import Derived.SizedLaws
import Derived.Test.YtnnkedeohfbkeaaCFnExactSavedNodes0
import Derived.Test.YtnnkedeohfbkeaaCFnExactSavedNodes3
import Derived.Test.YtnnkedeohfbkeaaCFnExactSavedNodes1
import Derived.Test.YtnnkedeohfbkeaaCFnExactSavedNodes2
set_option linter.unusedVariables false
set_option linter.unusedSimpArgs false
set_option maxHeartbeats 8000000
set_option maxRecDepth 100000
namespace Go.Proofs.Ytnnkedeohfbkeaa.L
open Go.RowKit Go.Proofs.Ytnnkedeohfbkeaa.P Go.Proofs.Ytnnkedeohfbkeaa.M Go.Proofs.YtnnkedeohfbkeaaW.PrintWords Go.Proofs.YtnnkedeohfbkeaaW.PrintLast Go.Proofs.YtnnkedeohfbkeaaW.PrintMore
theorem l1In_eq (a b c : Int) : spec_l1In.f a b c = some (decide (b ≤ a ∧ a ≤ c)) := by
 unfold spec_l1In.f
 by_cases h : b ≤ a
 ·
  rw [if_pos (by omega)]; simp [h]
 ·
  rw [if_neg (by omega)]; simp [h]
instance : DecidableEq S65 := fun a b => if h : a.f0 = b.f0 ∧ a.f1 = b.f1 ∧ a.f2 = b.f2 then isTrue (by obtain ⟨a0, a1, a2⟩ := a; obtain ⟨b0, b1, b2⟩ := b; obtain ⟨h1, h2, h3⟩ := h; simp only at h1 h2 h3; subst h1 h2 h3; rfl) else isFalse (fun e => h (by rw [e]; exact ⟨rfl, rfl, rfl⟩))
def mkN (x : Int × Int × Bool) : S65 := ⟨x.1, x.2.1, x.2.2⟩
def trN (P ws : List Txt) : List S65 := (nodesL P ws).map mkN
theorem trN_length (P ws : List Txt) : (trN P ws).length = P.length := by simp [trN, nodesL]
theorem rdN (P ws : List Txt) (i : Nat) (h : i < P.length) : rd_T65 (trN P ws) (i : Int) = mkN (ndL P ws (P.getD i [])) := by
 unfold rd_T65 trN nodesL
 rw [Int.toNat_natCast, getD_lt _ (by simpa using h), getD_lt _ h]
 simp
theorem strOfNums_B (n : Int) : strOfNums [n] = B [UInt8.ofNat n.toNat] := rfl
theorem letter_back {p : Txt} (hw : wordL p = true) (h : p ≠ []) : strOfNums [(wrap64 (97 + ltrOf p)) % 256] = B [p.getD (p.length - 1) 0] := by
 obtain ⟨h1, h2, h3⟩ := ltrOf_bd hw h
 have h4 := letter_bd ((wordL_iff.1 hw).1 _ (getLast_mem h))
 rw [strOfNums_B]
 congr 2
 have e : (wrap64 (97 + ltrOf p) % 256).toNat = (p.getD (p.length - 1) 0).toNat := by rw [wrap64_id (by omega) (by omega)]; omega
 rw [e]
 simp
theorem l2Word_loop (l : Txt) (hl : l.length ≤ 4611686018427387903) : ∀ (d n : Nat), n + d = l.length → Ev (fun k => spec_l2Word.l0 k (B l) (n : Int)) ((l.drop n).all letterB && decide (l.length ≤ 12)) := by
 have last : ∀ n : Nat, Ev (fun k => spec_l2Word.j1 k (B l) (n : Int) false) (decide (l.length ≤ 12)) := by
  intro n
  refine Ev.step (fun k => spec_l2Word.j1.eq_2 ..) (Ev.ifF (by simp) ?_)
  have : decide (((B l).size : Int) ≤ 12) = decide (l.length ≤ 12) := by simp; omega
  rw [this]; exact Ev.now _
 intro d
 induction d with
 | zero =>
  intro n hn
  refine Ev.step (fun k => spec_l2Word.l0.eq_2 ..) (Ev.ifF (by simp; omega) ?_)
  rw [List.drop_of_length_le (by omega)]; simpa using last n
 | succ d ih =>
  intro n hn
  have h1 : n < l.length := by omega
  refine Ev.step (fun k => spec_l2Word.l0.eq_2 ..) (Ev.ifT (by simp; omega) ?_)
  rw [drop_cons_getD 0 h1]
  by_cases h16 : n ≤ 12
  ·
   rw [show decide ((n : Int) ≤ 12) = true from by simp; omega]
   refine Ev.step (fun k => spec_l2Word.j1.eq_2 ..) (Ev.ifT rfl (Ev.ifT (by omega) (Ev.ifT (by simp; omega) ?_)))
   simp only [bt_B l n h1]
   by_cases ha : ((l.getD n 0).toNat : Int) < 97
   ·
    refine Ev.ifT ha ?_
    have : letterB (l.getD n 0) = false := by simp only [letterB, decide_eq_false_iff_not]; omega
    simpa only [List.all_cons, this, Bool.false_and] using Ev.now false
   refine Ev.ifF ha ?_
   by_cases hz : ((l.getD n 0).toNat : Int) > 122
   ·
    refine Ev.ifT hz ?_
    have : letterB (l.getD n 0) = false := by simp only [letterB, decide_eq_false_iff_not]; omega
    simpa only [List.all_cons, this, Bool.false_and] using Ev.now false
   refine Ev.ifF hz ?_
   have : letterB (l.getD n 0) = true := by simp only [letterB, decide_eq_true_eq]; omega
   simpa only [wrap64_succ n (by omega), List.all_cons, this, Bool.true_and] using ih (n + 1) (by omega)
  ·
   rw [show decide ((n : Int) ≤ 12) = false from by simp; omega]
   have : ((l.getD n 0 :: l.drop (n + 1)).all letterB && decide (l.length ≤ 12)) = decide (l.length ≤ 12) := by
    have : decide (l.length ≤ 12) = false := by simp; omega
    rw [this]; simp
   rw [this]; exact last n
theorem l2Word_ev (l : Txt) (hl : l.length ≤ 4611686018427387903) : Ev (fun k => spec_l2Word.f k (B l)) (wordL l) := by
 simpa [spec_l2Word.f, wordL] using l2Word_loop l hl l.length 0 (by omega)
theorem l2Prefix_last (x1 : Int) (s : Txt) (N : List S65) : Ev (fun k => spec_l2Prefix.j1 k x1 (B s) false N) (if x1 = 0 then B s else B [63]) := by
 refine Ev.step (fun k => spec_l2Prefix.j1.eq_2 ..) (Ev.ifF (by simp) ?_)
 by_cases h : x1 = 0
 ·
  have e : (if x1 = 0 then B s else B [63]) = B s := if_pos h
  rw [e]; exact Ev.ifT h (Ev.now _)
 ·
  have e : (if x1 = 0 then B s else B [63]) = B [63] := if_neg h
  rw [e]; exact Ev.ifF h (Ev.now _)
theorem l2Prefix_ex (N : List S65) : ∀ (d : Nat) (x1 : Int) (s : Txt), x1.toNat ≤ d → x1 < N.length → s.length ≤ 13 → ∃ r : Txt, r.length ≤ 13 ∧ Ev (fun k => spec_l2Prefix.l0 k x1 (B s) N) (B r) := by
 have low : ∀ (x1 : Int) (s : Txt), x1 ≤ 0 → s.length ≤ 13 → ∃ r : Txt, r.length ≤ 13 ∧ Ev (fun k => spec_l2Prefix.l0 k x1 (B s) N) (B r) := by
  intro x1 s h1 h2
  have hl := l2Prefix_last x1 s N
  by_cases h : x1 = 0
  ·
   rw [if_pos h] at hl; exact ⟨s, h2, Ev.step (fun k => spec_l2Prefix.l0.eq_2 ..) (Ev.ifF (by omega) hl)⟩
  ·
   rw [if_neg h] at hl; exact ⟨[63], by simp, Ev.step (fun k => spec_l2Prefix.l0.eq_2 ..) (Ev.ifF (by omega) hl)⟩
 intro d
 induction d with
 | zero => intro x1 s h1 h2 h3; exact low x1 s (by omega) h3
 | succ d ih =>
  intro x1 s h1 h2 h3
  by_cases hp : x1 ≤ 0
  ·
   exact low x1 s hp h3
  by_cases h12 : s.length ≤ 12
  ·
   have hd : decide (((B s).size : Int) ≤ 12) = true := by simp; omega
   by_cases hin : (0 : Int) ≤ (rd_T65 N x1).f0 ∧ (rd_T65 N x1).f0 ≤ 25
   ·
    by_cases hpar : (rd_T65 N x1).f1 ≥ x1
    ·
     refine ⟨[63], by simp, Ev.step (fun k => spec_l2Prefix.l0.eq_2 ..) (Ev.ifT (by omega) ?_)⟩
     rw [hd]
     refine Ev.step (fun k => spec_l2Prefix.j1.eq_2 ..) (Ev.ifT rfl (Ev.ifT (by omega) (Ev.ifT h2 ?_)))
     rw [l1In_eq, decide_eq_true hin]
     exact Ev.some_bind (Ev.ifT rfl (Ev.ifT hpar (Ev.now _)))
    ·
     obtain ⟨r, hr, he⟩ := ih (rd_T65 N x1).f1 (UInt8.ofNat ((wrap64 (97 + (rd_T65 N x1).f0)) % 256).toNat :: s) (by omega) (by omega) (by simp; omega)
     refine ⟨r, hr, Ev.step (fun k => spec_l2Prefix.l0.eq_2 ..) (Ev.ifT (by omega) ?_)⟩
     rw [hd]
     refine Ev.step (fun k => spec_l2Prefix.j1.eq_2 ..) (Ev.ifT rfl (Ev.ifT (by omega) (Ev.ifT h2 ?_)))
     rw [l1In_eq, decide_eq_true hin]
     refine Ev.some_bind (Ev.ifT rfl (Ev.ifF hpar (Ev.some_bind ?_)))
     rw [strOfNums_B, append_B]
     exact Ev.ifT (by simp; omega) he
   ·
    refine ⟨[63], by simp, Ev.step (fun k => spec_l2Prefix.l0.eq_2 ..) (Ev.ifT (by omega) ?_)⟩
    rw [hd]
    refine Ev.step (fun k => spec_l2Prefix.j1.eq_2 ..) (Ev.ifT rfl (Ev.ifT (by omega) (Ev.ifT h2 ?_)))
    rw [l1In_eq, decide_eq_false hin]
    exact Ev.some_bind (Ev.ifF (by simp) (Ev.now _))
  ·
   have hd : decide (((B s).size : Int) ≤ 12) = false := by simp; omega
   refine ⟨[63], by simp, Ev.step (fun k => spec_l2Prefix.l0.eq_2 ..) (Ev.ifT (by omega) ?_)⟩
   rw [hd]
   have hl := l2Prefix_last x1 s N
   rwa [if_neg (by omega)] at hl
theorem l2Prefix_up {P : List Txt} (ws : List Txt) (hA : Asc P) (hC : Clo P) (hW : ∀ p ∈ P, wordL p = true) : ∀ (n : Nat) (p s : Txt), p.length = n → p ∈ P → (p ++ s).length ≤ 12 → Ev (fun k => spec_l2Prefix.l0 k (placeL P p : Int) (B s) (trN P ws)) (B (p ++ s)) := by
 intro n
 induction n with
 | zero =>
  intro p s h1 h2 h3
  have hp : p = [] := List.eq_nil_of_length_eq_zero h1
  subst hp
  obtain ⟨z1, z2⟩ := clo_zero hA hC
  have hz : placeL P [] = 0 := by have := placeL_get hA z1; rwa [z2] at this
  rw [hz]
  have hl := l2Prefix_last ((0 : Nat) : Int) s (trN P ws)
  exact Ev.step (fun k => spec_l2Prefix.l0.eq_2 ..) (Ev.ifF (by simp) (by simpa using hl))
 | succ n ih =>
  intro p s h1 h2 h3
  have hne : p ≠ [] := fun e => by rw [e] at h1; simp at h1
  obtain ⟨i1, i2⟩ := placeL_mem h2
  have i3 : 0 < placeL P p := by
   rcases Nat.eq_zero_or_pos (placeL P p) with h0 | h0
   ·
    rw [h0, (clo_zero hA hC).2] at i2; exact absurd i2.symm hne
   ·
    exact h0
  obtain ⟨j1, j2⟩ := clo_parent hA hC i1 i3
  rw [i2] at j1 j2
  have hsl : s.length ≤ 12 := by rw [List.length_append] at h3; omega
  have hd : decide (((B s).size : Int) ≤ 12) = true := by simp; omega
  have hf : rd_T65 (trN P ws) (placeL P p : Int) = ⟨ltrOf p, (placeL P p.dropLast : Int), decide (p ∈ ws)⟩ := by
   rw [rdN P ws _ i1, i2]; unfold mkN ndL; rw [if_neg hne, if_neg hne]
  obtain ⟨_, b1, b2⟩ := ltrOf_bd (hW p h2) hne
  refine Ev.step (fun k => spec_l2Prefix.l0.eq_2 ..) (Ev.ifT (by omega) ?_)
  rw [hd]
  refine Ev.step (fun k => spec_l2Prefix.j1.eq_2 ..) (Ev.ifT rfl (Ev.ifT (by omega) (Ev.ifT (by rw [trN_length]; omega) ?_)))
  rw [hf, l1In_eq, decide_eq_true ⟨b1, b2⟩]
  refine Ev.some_bind (Ev.ifT rfl (Ev.ifF (by show ¬ ((placeL P p.dropLast : Nat) : Int) ≥ ((placeL P p : Nat) : Int); omega) (Ev.some_bind ?_)))
  rw [letter_back (hW p h2) hne, append_B]
  have hpd : p.dropLast.length = n := by rw [List.length_dropLast]; omega
  have e1 : p.dropLast ++ ([p.getD (p.length - 1) 0] ++ s) = p ++ s := by rw [← List.append_assoc, dropLast_getD p hne]
  refine Ev.ifT (by simp; omega) ?_
  have := ih p.dropLast ([p.getD (p.length - 1) 0] ++ s) hpd (hC.2 p h2 hne) (by rw [e1]; exact h3)
  rwa [e1] at this
theorem l2Prefix_ev {P : List Txt} (ws : List Txt) (hA : Asc P) (hC : Clo P) (hW : ∀ p ∈ P, wordL p = true) (i : Nat) (hi : i < P.length) : Ev (fun k => spec_l2Prefix.f k (trN P ws) (i : Int)) (B (P.getD i [])) := by
 have hm := getD_mem hi
 have := l2Prefix_up ws hA hC hW _ (P.getD i []) [] rfl hm (by rw [List.append_nil]; exact (wordL_iff.1 (hW _ hm)).2)
 rw [placeL_get hA hi, List.append_nil] at this
 exact this
def setR : List Txt → List Txt → List ByteArray × Bool
 | [], acc => (acc.map B, decide (acc.length ≤ 40))
 | w :: r, acc => if wordL w = true then setR r (putL acc w) else ([], false)
theorem setR_eq : ∀ (l acc : List Txt), setR l acc = if l.all wordL = true then ((l.foldl putL acc).map B, decide ((l.foldl putL acc).length ≤ 40)) else ([], false)
 | [], acc => rfl
 | w :: r, acc => by
  unfold setR
  rw [setR_eq r (putL acc w), List.all_cons, List.foldl_cons]
  cases h : wordL w with
  | false => rw [if_neg Bool.false_ne_true, if_neg (by rw [Bool.false_and]; exact Bool.false_ne_true)]
  | true => rw [if_pos rfl, Bool.true_and]
theorem l2Set_loop {b : Nat} (hb : b ≤ 1000000) (ws : List Txt) (hl : ws.length ≤ 2147483648) (hw : ∀ w ∈ ws, w.length ≤ b) : ∀ (d i : Nat) (acc : List Txt), i + d = ws.length → acc.length ≤ i → (∀ w ∈ acc, w.length ≤ b) →
  Ev (fun k => spec_l2Set.l0 k (ws.map B) (acc.map B) (i : Int)) (setR (ws.drop i) acc) := by
 intro d
 induction d with
 | zero =>
  intro i acc h1 h2 h3
  rw [List.drop_of_length_le (by omega)]
  refine Ev.step (fun k => spec_l2Set.l0.eq_2 ..) (Ev.ifF (by simp; omega) ?_)
  have : decide (((acc.map B).length : Int) ≤ 40) = decide (acc.length ≤ 40) := by
   rw [List.length_map]; exact decide_eq_decide.2 (by omega)
  rw [this]
  exact Ev.now _
 | succ d ih =>
  intro i acc h1 h2 h3
  have hi : i < ws.length := by omega
  have hm := getD_mem hi
  rw [drop_cons_getD [] hi]
  refine Ev.step (fun k => spec_l2Set.l0.eq_2 ..) (Ev.ifT (by simp; omega) (Ev.ifT (by omega) ?_))
  rw [rdB ws i hi]
  refine Ev.bind (f := fun k t => if t = true then (spec_l2Put.f (acc.map B) (B (ws.getD i []))).bind fun t165 => spec_l2Set.l0 k (ws.map B) t165 (wrap64 ((i : Int) + 1)) else some ([], false)) (l2Word_ev _ (by have := hw _ hm; omega)) ?_
  unfold setR
  cases hq : wordL (ws.getD i []) with
  | false =>
   rw [if_neg Bool.false_ne_true]
   exact Ev.ifF Bool.false_ne_true (Ev.now _)
  | true =>
   rw [if_pos (show true = true from rfl)]
   refine Ev.ifT rfl ?_
   rw [l2Put_eq acc _ (by omega) (fun x hx => by have := h3 x hx; omega)]
   refine Ev.some_bind ?_
   have h6 := putL_length_le acc (ws.getD i [])
   have := ih (i + 1) (putL acc (ws.getD i [])) (by omega) (by omega) (fun x hx => by
    rcases (mem_putL _ _ _).1 hx with rfl | hx
    ·
     exact hw _ hm
    ·
     exact h3 x hx)
   rw [wrap64_succ i (by omega)]
   exact this
theorem l2Set_ev {b : Nat} (ws : List Txt) (hl : ws.length ≤ 2147483648) (hw : ∀ w ∈ ws, w.length ≤ b) (hb : b ≤ 1000000 := by omega) : Ev (fun k => spec_l2Set.f k (ws.map B)) (if ws.all wordL = true then ((setL ws).map B, decide ((setL ws).length ≤ 40)) else ([], false)) := by
 have := l2Set_loop hb ws hl hw ws.length 0 [] (by omega) (by simp) (by simp)
 rw [List.drop_zero, setR_eq] at this
 exact this
theorem l2Has_loop (l : List Txt) (p : Txt) (hl : l.length ≤ 4611686018427387903) : ∀ (d i : Nat), i + d = l.length → Ev (fun k => spec_l2Has.l0 k (l.map B) (B p) (i : Int)) (decide (p ∈ l.drop i)) := by
 intro d
 induction d with
 | zero =>
  intro i h
  rw [List.drop_of_length_le (by omega)]
  exact Ev.step (fun k => spec_l2Has.l0.eq_2 ..) (Ev.ifF (by simp; omega) (by simpa using Ev.now false))
 | succ d ih =>
  intro i h
  have hi : i < l.length := by omega
  refine Ev.step (fun k => spec_l2Has.l0.eq_2 ..) (Ev.ifT (by simp; omega) (Ev.ifT (by omega) ?_))
  rw [rdB l i hi, drop_cons_getD [] hi, toList_B, toList_B]
  by_cases e : l.getD i [] = p
  ·
   rw [show decide (p ∈ l.getD i [] :: l.drop (i + 1)) = true from decide_eq_true (by rw [e]; exact List.mem_cons_self)]
   exact Ev.ifT e (Ev.now _)
  ·
   rw [show decide (p ∈ l.getD i [] :: l.drop (i + 1)) = decide (p ∈ l.drop (i + 1)) from decide_eq_decide.2 ⟨fun h => (List.mem_cons.1 h).resolve_left (fun q => e q.symm), fun h => List.mem_cons_of_mem _ h⟩]
   refine Ev.ifF e ?_
   rw [wrap64_succ i (by omega)]
   exact ih (i + 1) (by omega)
theorem l2Has_ev (l : List Txt) (p : Txt) (hl : l.length ≤ 4611686018427387903) : Ev (fun k => spec_l2Has.f k (l.map B) (B p)) (decide (p ∈ l)) := by
 have := l2Has_loop l p hl l.length 0 (by omega)
 rw [List.drop_zero] at this
 exact this
theorem l2Place_loop (l : List Txt) (p : Txt) (hl : l.length ≤ 4611686018427387903) : ∀ (d i : Nat), i + d = l.length → Ev (fun k => spec_l2Place.l0 k (l.map B) (B p) (i : Int)) (if p ∈ l.drop i then ((i + placeL (l.drop i) p : Nat) : Int) else -1) := by
 intro d
 induction d with
 | zero =>
  intro i h
  rw [List.drop_of_length_le (by omega)]
  exact Ev.step (fun k => spec_l2Place.l0.eq_2 ..) (Ev.ifF (by simp; omega) (by simpa using Ev.now (-1 : Int)))
 | succ d ih =>
  intro i h
  have hi : i < l.length := by omega
  refine Ev.step (fun k => spec_l2Place.l0.eq_2 ..) (Ev.ifT (by simp; omega) (Ev.ifT (by omega) ?_))
  rw [rdB l i hi, drop_cons_getD [] hi, toList_B, toList_B]
  by_cases e : l.getD i [] = p
  ·
   rw [if_pos (show p ∈ l.getD i [] :: l.drop (i + 1) from by rw [e]; exact List.mem_cons_self), placeL, if_pos e]
   exact Ev.ifT e (Ev.now _)
  ·
   refine Ev.ifF e ?_
   rw [wrap64_succ i (by omega)]
   have h1 := ih (i + 1) (by omega)
   by_cases hm : p ∈ l.drop (i + 1)
   ·
    rw [if_pos hm] at h1
    rw [if_pos (List.mem_cons_of_mem _ hm), placeL, if_neg e]
    rwa [show i + (placeL (l.drop (i + 1)) p + 1) = i + 1 + placeL (l.drop (i + 1)) p from by omega]
   ·
    rw [if_neg hm] at h1
    rw [if_neg (fun h => hm ((List.mem_cons.1 h).resolve_left (fun q => e q.symm)))]
    exact h1
theorem l2Place_ev (l : List Txt) (p : Txt) (hl : l.length ≤ 4611686018427387903) (h : p ∈ l) : Ev (fun k => spec_l2Place.f k (l.map B) (B p)) (placeL l p : Int) := by
 have := l2Place_loop l p hl l.length 0 (by omega)
 rw [List.drop_zero, if_pos h, Nat.zero_add] at this
 exact this
def begF (w : Txt) : Nat → Nat → List Txt
 | _, 0 => []
 | n, d + 1 => w.take n :: begF w (n + 1) d
theorem begF_eq (w : Txt) : ∀ d n, begF w n d = (List.range d).map fun j => w.take (n + j)
 | 0, _ => rfl
 | d + 1, n => by
  rw [begF, begF_eq w d (n + 1), List.range_succ_eq_map, List.map_cons, List.map_map]
  congr 1
  exact List.map_congr_left fun j _ => by show w.take (n + 1 + j) = w.take (n + (j + 1)); congr 1; omega
theorem begs_begF (w : Txt) : begs w = begF w 1 w.length := by
 rw [begF_eq]
 exact List.map_congr_left fun j _ => by congr 1; omega
theorem begF_len (w : Txt) : ∀ d n, (begF w n d).length = d := fun d n => by rw [begF_eq]; simp
theorem l2Of_in (ws : List Txt) (hl : ws.length ≤ 40) (hw : ∀ w ∈ ws, w.length ≤ 12) (i : Nat) (hi : i < ws.length) (r : List S65) (acc2 : List Txt) (hr : Ev (fun k => spec_l2Of.l0 k (ws.map B) (acc2.map B) ((i + 1 : Nat) : Int)) r) :
  ∀ (d n : Nat) (acc : List Txt), 0 < n → n + d = (ws.getD i []).length + 1 → (begF (ws.getD i []) n d).foldl putL acc = acc2 → acc.length + d ≤ 1000 → (∀ x ∈ acc, x.length ≤ 12) → Ev (fun k => spec_l2Of.l1 k (ws.map B) (acc.map B) (i : Int) (n : Int)) r := by
 have hwi := hw _ (getD_mem hi)
 intro d
 induction d with
 | zero =>
  intro n acc h0 h1 h2 h3 h4
  rw [begF, List.foldl_nil] at h2
  subst h2
  refine Ev.step (fun k => spec_l2Of.l1.eq_2 ..) (Ev.ifT (by omega) (Ev.ifT (by simp; omega) (Ev.ifF (by rw [rdB ws i hi, size_B]; omega) ?_)))
  rw [wrap64_succ i (by omega)]
  exact hr
 | succ d ih =>
  intro n acc h0 h1 h2 h3 h4
  refine Ev.step (fun k => spec_l2Of.l1.eq_2 ..) (Ev.ifT (by omega) (Ev.ifT (by simp; omega) (Ev.ifT (by rw [rdB ws i hi, size_B]; omega) (Ev.ifT (by omega) ?_))))
  rw [rdB ws i hi, extract_B, List.drop_zero, Int.toNat_natCast, Nat.sub_zero, l2Put_eq acc _ (by omega) (fun x hx => by have := h4 x hx; omega)]
  refine Ev.some_bind ?_
  rw [wrap64_succ n (by omega)]
  have h6 := putL_length_le acc ((ws.getD i []).take n)
  exact ih (n + 1) (putL acc ((ws.getD i []).take n)) (by omega) (by omega) (by rw [← h2]; rfl) (by omega) (fun x hx => by
   rcases (mem_putL _ _ _).1 hx with rfl | hx
   ·
    rw [List.length_take]; omega
   ·
    exact h4 x hx)
theorem l2Of_out (ws : List Txt) (hl : ws.length ≤ 40) (hw : ∀ w ∈ ws, w.length ≤ 12) (r : List S65) (all : List Txt) (hr : Ev (fun k => spec_l2Of.l2 k (ws.map B) (all.map B) 0 []) r) :
  ∀ (d i : Nat) (acc : List Txt), i + d = ws.length → ((ws.drop i).flatMap begs).foldl putL acc = all → acc.length + 12 * d ≤ 600 → (∀ x ∈ acc, x.length ≤ 12) → Ev (fun k => spec_l2Of.l0 k (ws.map B) (acc.map B) (i : Int)) r := by
 intro d
 induction d with
 | zero =>
  intro i acc h1 h2 h3 h4
  rw [List.drop_of_length_le (by omega), List.flatMap_nil, List.foldl_nil] at h2
  subst h2
  exact Ev.step (fun k => spec_l2Of.l0.eq_2 ..) (Ev.ifF (by simp; omega) hr)
 | succ d ih =>
  intro i acc h1 h2 h3 h4
  have hi : i < ws.length := by omega
  have hwi := hw _ (getD_mem hi)
  rw [drop_cons_getD [] hi, List.flatMap_cons, List.foldl_append] at h2
  have h5 := foldl_putL_len (begs (ws.getD i [])) acc
  rw [begs_length] at h5
  have hn := ih (i + 1) _ (by omega) h2 (by omega) (fun x hx => by
   rcases (foldl_putL_mem _ _ _).1 hx with hx | hx
   ·
    exact Nat.le_trans (mem_begs.1 hx).2.length_le hwi
   ·
    exact h4 x hx)
  refine Ev.step (fun k => spec_l2Of.l0.eq_2 ..) (Ev.ifT (by simp; omega) ?_)
  exact l2Of_in ws hl hw i hi r _ hn (ws.getD i []).length 1 acc (by omega) (by omega) (by rw [← begs_begF]) (by omega) h4
theorem l2Of_nodes {ws P : List Txt} (hA : Asc P) (hC : Clo P) (hW : ∀ p ∈ P, wordL p = true) (hP : P.length ≤ 1000) (hl : ws.length ≤ 1000) : ∀ (d i : Nat) (acc : List S65), i + d = P.length → acc.length ≤ i →
  Ev (fun k => spec_l2Of.l2 k (ws.map B) (P.map B) (i : Int) acc) (acc ++ ((P.drop i).map fun p => mkN (ndL P ws p))) := by
 intro d
 induction d with
 | zero =>
  intro i acc h1 h2
  rw [List.drop_of_length_le (by omega), List.map_nil, List.append_nil]
  exact Ev.step (fun k => spec_l2Of.l2.eq_2 ..) (Ev.ifF (by simp; omega) (Ev.now _))
 | succ d ih =>
  intro i acc h1 h2
  have hi : i < P.length := by omega
  have hm := getD_mem hi
  rw [drop_cons_getD [] hi, List.map_cons]
  refine Ev.step (fun k => spec_l2Of.l2.eq_2 ..) (Ev.ifT (by simp; omega) (Ev.ifT (by omega) ?_))
  rw [rdB P i hi]
  refine Ev.bind (l2Has_ev ws (P.getD i []) (by omega)) ?_
  have hcons : ∀ x : S65, acc ++ (x :: (P.drop (i + 1)).map fun p => mkN (ndL P ws p)) = (acc ++ [x]) ++ (P.drop (i + 1)).map fun p => mkN (ndL P ws p) := fun x => by simp
  rw [hcons]
  by_cases h0 : i = 0
  ·
   have hp : P.getD i [] = [] := by rw [h0]; exact (clo_zero hA hC).2
   refine Ev.ifF (by omega) (Ev.ifT (by omega) ?_)
   have hx : mkN (ndL P ws (P.getD i [])) = ⟨-1, -1, decide (P.getD i [] ∈ ws)⟩ := by unfold mkN ndL; rw [if_pos hp, if_pos hp]
   rw [hx, wrap64_succ i (by omega)]
   exact ih (i + 1) _ (by omega) (by simp; omega)
  ·
   have hne := clo_pos hA hC hi (by omega)
   have hlen := List.length_pos_iff.2 hne
   have h12 := (wordL_iff.1 (hW _ hm)).2
   have hw1 : wrap64 (((B (P.getD i [])).size : Int) - 1) = ((P.getD i []).length - 1 : Nat) := by rw [size_B, wrap64_id (by omega) (by omega)]; omega
   rw [hw1]
   refine Ev.ifT (by omega) (Ev.ifT (by omega) (Ev.ifT (by rw [size_B]; omega) (Ev.ifT (by rw [size_B]; omega) ?_)))
   rw [extract_B, List.drop_zero, Int.toNat_natCast, Nat.sub_zero, ← List.dropLast_eq_take]
   refine Ev.bind (l2Place_ev P _ (by omega) (hC.2 _ hm hne)) (Ev.ifT (by omega) ?_)
   have hx : mkN (ndL P ws (P.getD i [])) = ⟨((bt (B (P.getD i [])) (((P.getD i []).length - 1 : Nat) : Int)) - 97) % 256, (placeL P (P.getD i []).dropLast : Int), decide (P.getD i [] ∈ ws)⟩ := by
    unfold mkN ndL
    rw [if_neg hne, if_neg hne, bt_B _ _ (by omega)]
    rfl
   rw [hx, wrap64_succ i (by omega)]
   exact ih (i + 1) _ (by omega) (by simp; omega)
theorem l2Of_ev {ws : List Txt} (h : OkW ws) : Ev (fun k => spec_l2Of.f k (ws.map B)) (trN (preL ws) ws) := by
 have h1 := h.pre
 have h2 := h.len
 have hn := l2Of_nodes (ws := ws) (asc_preL ws) (clo_preL ws) (fun p hp => preL_word h.word hp) (by omega) (by omega) (preL ws).length 0 [] (by omega) (by simp)
 rw [List.drop_zero, List.nil_append] at hn
 have e : (preL ws).map (fun p => mkN (ndL (preL ws) ws p)) = trN (preL ws) ws := by unfold trN nodesL; rw [List.map_map]; rfl
 rw [e] at hn
 exact l2Of_out ws h.len h.le _ (preL ws) hn ws.length 0 [[]] (by omega) rfl (by simp; omega) (by simp)
theorem rd_get (N : List S65) (i : Nat) (h : i < N.length) : rd_T65 N (i : Int) = N[i] := by
 unfold rd_T65
 rw [Int.toNat_natCast, getD_lt _ h]
theorem okW_setL {ws : List Txt} (h : ws.all wordL = true) (hl : (setL ws).length ≤ 40) : OkW (setL ws) := ⟨asc_setL ws, hl, fun w hw => List.all_eq_true.1 h w ((mem_setL ws w).1 hw)⟩
def IsTr (N : List S65) : Prop := ∃ ws, OkW ws ∧ N = trN (preL ws) ws
theorem IsTr.len {N : List S65} (h : IsTr N) : 1 ≤ N.length ∧ N.length ≤ 481 := by
 obtain ⟨ws, h, rfl⟩ := h
 rw [trN_length]
 exact ⟨(clo_zero (asc_preL ws) (clo_preL ws)).1, h.pre⟩
theorem l2Words_loop_ex (N : List S65) (hN : N.length ≤ 4294967296) : ∀ (d i : Nat) (acc : List Txt), i + d = N.length → acc.length ≤ i → (∀ w ∈ acc, w.length ≤ 13) →
  ∃ ws : List Txt, ws.length ≤ N.length ∧ (∀ w ∈ ws, w.length ≤ 13) ∧ Ev (fun k => spec_l2Words.l0 k (acc.map B) (i : Int) N) (ws.map B) := by
 intro d
 induction d with
 | zero => intro i acc h1 h2 h3; exact ⟨acc, by omega, h3, Ev.step (fun k => spec_l2Words.l0.eq_2 ..) (Ev.ifF (by omega) (Ev.now _))⟩
 | succ d ih =>
  intro i acc h1 h2 h3
  by_cases hf : (rd_T65 N (i : Int)).f2 = true
  ·
   obtain ⟨r, hr, he⟩ := l2Prefix_ex N i (i : Int) [] (by omega) (by omega) (by simp)
   obtain ⟨ws, w1, w2, w3⟩ := ih (i + 1) (acc ++ [r]) (by omega) (by simp; omega) (fun w hw => by
    rcases List.mem_append.1 hw with hw | hw
    ·
     exact h3 w hw
    ·
     rw [List.mem_singleton.1 hw]; exact hr)
   refine ⟨ws, w1, w2, Ev.step (fun k => spec_l2Words.l0.eq_2 ..) (Ev.ifT (by omega) (Ev.ifT (by omega) (Ev.ifT hf (Ev.bind (f := fun k t => if (acc.map B).length < 8796093022208 then spec_l2Words.l0 k (acc.map B ++ [t]) (wrap64 ((i : Int) + 1)) N else none) he (Ev.ifT (by simp; omega) ?_)))))⟩
   simpa only [wrap64_succ i (by omega), List.map_append, List.map_cons, List.map_nil] using w3
  ·
   obtain ⟨ws, w1, w2, w3⟩ := ih (i + 1) acc (by omega) (by omega) h3
   refine ⟨ws, w1, w2, Ev.step (fun k => spec_l2Words.l0.eq_2 ..) (Ev.ifT (by omega) (Ev.ifT (by omega) (Ev.ifF hf ?_)))⟩
   simpa only [wrap64_succ i (by omega)] using w3
theorem l2Words_ex (N : List S65) (hN : N.length ≤ 4294967296) : ∃ ws : List Txt, ws.length ≤ N.length ∧ (∀ w ∈ ws, w.length ≤ 13) ∧ Ev (fun k => spec_l2Words.f k N) (ws.map B) :=
 l2Words_loop_ex N hN N.length 0 [] (by omega) (by simp) (by simp)
theorem l2Words_loop {P : List Txt} (ws : List Txt) (hA : Asc P) (hC : Clo P) (hW : ∀ p ∈ P, wordL p = true) (hP : P.length ≤ 4294967296) : ∀ (d i : Nat) (acc : List Txt), i + d = P.length → acc.length ≤ i →
  Ev (fun k => spec_l2Words.l0 k (acc.map B) (i : Int) (trN P ws)) ((acc ++ (P.drop i).filter (fun p => decide (p ∈ ws))).map B) := by
 intro d
 induction d with
 | zero =>
  intro i acc h1 h2
  rw [List.drop_of_length_le (by omega)]
  exact Ev.step (fun k => spec_l2Words.l0.eq_2 ..) (Ev.ifF (by rw [trN_length]; omega) (by simpa using Ev.now _))
 | succ d ih =>
  intro i acc h1 h2
  have hi : i < P.length := by omega
  have hf : (rd_T65 (trN P ws) (i : Int)).f2 = decide (P.getD i [] ∈ ws) := by rw [rdN P ws i hi]; rfl
  rw [drop_cons_getD [] hi, List.filter_cons]
  by_cases hm : P.getD i [] ∈ ws
  ·
   rw [decide_eq_true hm] at hf
   rw [decide_eq_true hm, if_pos rfl]
   refine Ev.step (fun k => spec_l2Words.l0.eq_2 ..) (Ev.ifT (by rw [trN_length]; omega) (Ev.ifT (by omega) (Ev.ifT hf (Ev.bind (f := fun k t => if (acc.map B).length < 8796093022208 then spec_l2Words.l0 k (acc.map B ++ [t]) (wrap64 ((i : Int) + 1)) (trN P ws) else none) (l2Prefix_ev ws hA hC hW i hi) (Ev.ifT (by simp; omega) ?_)))))
   have := ih (i + 1) (acc ++ [P.getD i []]) (by omega) (by simp; omega)
   simpa only [wrap64_succ i (by omega), List.map_append, List.map_cons, List.map_nil, List.append_assoc, List.singleton_append] using this
  ·
   rw [decide_eq_false hm] at hf
   rw [decide_eq_false hm, if_neg Bool.false_ne_true]
   refine Ev.step (fun k => spec_l2Words.l0.eq_2 ..) (Ev.ifT (by rw [trN_length]; omega) (Ev.ifT (by omega) (Ev.ifF (by rw [hf]; exact Bool.false_ne_true) ?_)))
   simpa only [wrap64_succ i (by omega)] using ih (i + 1) acc (by omega) (by omega)
theorem l2Words_ev {ws : List Txt} (h : OkW ws) : Ev (fun k => spec_l2Words.f k (trN (preL ws) ws)) (ws.map B) := by
 have := l2Words_loop ws (asc_preL ws) (clo_preL ws) (fun p hp => preL_word h.word hp) (by have := h.pre; omega) (preL ws).length 0 [] (by omega) (by simp)
 rw [List.drop_zero, List.nil_append, filter_preL h.asc] at this
 exact this
theorem node_ne (a b : S65) : (!(a.f0 == b.f0) || (!(a.f1 == b.f1) || (!(a.f2 == b.f2)))) = decide (a ≠ b) := by
 obtain ⟨a0, a1, a2⟩ := a
 obtain ⟨b0, b1, b2⟩ := b
 rw [Bool.eq_iff_iff]
 simp only [Bool.or_eq_true, Bool.not_eq_true', beq_eq_false_iff_ne, decide_eq_true_eq, ne_eq, S65.mk.injEq]
 constructor
 ·
  rintro (h | h | h) ⟨e1, e2, e3⟩
  ·
   exact h e1
  ·
   exact h e2
  ·
   exact h e3
 ·
  intro h
  by_cases e1 : a0 = b0
  ·
   by_cases e2 : a1 = b1
   ·
    exact .inr (.inr fun e3 => h ⟨e1, e2, e3⟩)
   ·
    exact .inr (.inl e2)
  ·
   exact .inl e1
theorem l2Same_loop (M N : List S65) (hM : M.length ≤ 4611686018427387903) : ∀ (d i : Nat), i + d = M.length → i ≤ N.length → Ev (fun k => spec_l2Same.l0 k (i : Int) M N) (decide (M.drop i = N.drop i)) := by
 have fin : ∀ i : Nat, (i = M.length ∨ i = N.length) → i ≤ M.length → i ≤ N.length → Ev (fun k => spec_l2Same.j1 k (i : Int) false M N) (decide (M.drop i = N.drop i)) := by
  intro i h1 h2 h3
  refine Ev.step (fun k => spec_l2Same.j1.eq_2 ..) (Ev.ifF (by simp) ?_)
  have : ((M.length : Int) == (N.length : Int)) = decide (M.drop i = N.drop i) := by
   rw [Bool.eq_iff_iff, beq_iff_eq, decide_eq_true_eq]
   constructor
   ·
    intro e
    rw [List.drop_of_length_le (by omega), List.drop_of_length_le (by omega)]
   ·
    intro e
    have := congrArg List.length e
    rw [List.length_drop, List.length_drop] at this
    omega
  rw [this]
  exact Ev.now _
 intro d
 induction d with
 | zero =>
  intro i h1 h2
  exact Ev.step (fun k => spec_l2Same.l0.eq_2 ..) (Ev.ifF (by omega) (fin i (by omega) (by omega) h2))
 | succ d ih =>
  intro i h1 h2
  refine Ev.step (fun k => spec_l2Same.l0.eq_2 ..) (Ev.ifT (by omega) ?_)
  by_cases hi : i < N.length
  ·
   rw [decide_eq_true (show (i : Int) < (N.length : Int) by omega)]
   refine Ev.step (fun k => spec_l2Same.j1.eq_2 ..) (Ev.ifT rfl (Ev.ifT (by omega) (Ev.ifT (by omega) (Ev.ifT (by omega) ?_))))
   rw [node_ne, rd_get M i (by omega), rd_get N i hi, List.drop_eq_getElem_cons (show i < M.length by omega), List.drop_eq_getElem_cons hi]
   by_cases e : M[i] = N[i]
   ·
    refine Ev.ifF (by simp [e]) ?_
    rw [wrap64_succ i (by omega), show decide (M[i] :: M.drop (i + 1) = N[i] :: N.drop (i + 1)) = decide (M.drop (i + 1) = N.drop (i + 1)) from decide_eq_decide.2 ⟨fun h => (List.cons.inj h).2, fun h => by rw [e, h]⟩]
    exact ih (i + 1) (by omega) (by omega)
   ·
    refine Ev.ifT (by simp [e]) ?_
    rw [show decide (M[i] :: M.drop (i + 1) = N[i] :: N.drop (i + 1)) = false from decide_eq_false fun h => e (List.cons.inj h).1]
    exact Ev.now _
  ·
   rw [decide_eq_false (show ¬ (i : Int) < (N.length : Int) by omega)]
   exact fin i (by omega) (by omega) h2
theorem l2Same_ev (M N : List S65) (hM : M.length ≤ 4611686018427387903) : Ev (fun k => spec_l2Same.f k M N) (decide (M = N)) := by
 have := l2Same_loop M N hM M.length 0 (by omega) (by omega)
 rwa [List.drop_zero, List.drop_zero] at this
theorem l2Trie_ev (N : List S65) : ∃ b : Bool, (b = true ↔ IsTr N) ∧ Ev (fun k => spec_l2Trie.f k N) b := by
 unfold spec_l2Trie.f
 simp only [l1In_eq]
 by_cases hn : 1 ≤ (N.length : Int) ∧ (N.length : Int) ≤ 481
 ·
  rw [decide_eq_true hn]
  by_cases ht : IsTr N
  ·
   refine ⟨true, by simp [ht], Ev.some_bind (Ev.ifT rfl ?_)⟩
   obtain ⟨ws, h, rfl⟩ := ht
   refine Ev.bind (l2Words_ev h) (Ev.bind (l2Set_ev (b := 13) ws (by have := h.len; omega) (fun w hw => by have := h.le w hw; omega)) ?_)
   rw [if_pos (List.all_eq_true.2 h.word), setL_of_asc h.asc]
   refine Ev.ifT (by simpa using h.len) (Ev.bind (l2Of_ev h) (Ev.bind (l2Same_ev _ _ (by rw [trN_length]; have := h.pre; omega)) ?_))
   simpa using Ev.now true
  ·
   refine ⟨false, by simp [ht], Ev.some_bind (Ev.ifT rfl ?_)⟩
   obtain ⟨ws, w1, w2, w3⟩ := l2Words_ex N (by omega)
   refine Ev.bind w3 (Ev.bind (l2Set_ev ws (by omega) w2) ?_)
   by_cases ha : ws.all wordL = true
   ·
    rw [if_pos ha]
    by_cases hl : (setL ws).length ≤ 40
    ·
     have hok := okW_setL ha hl
     refine Ev.ifT (by simpa using hl) (Ev.bind (l2Of_ev hok) (Ev.bind (l2Same_ev _ _ (by rw [trN_length]; have := hok.pre; omega)) ?_))
     rw [show decide (trN (preL (setL ws)) (setL ws) = N) = false from decide_eq_false fun e => ht ⟨_, hok, e.symm⟩]
     exact Ev.now false
    ·
     exact Ev.ifF (by simpa using hl) (Ev.now false)
   ·
    rw [if_neg ha]
    exact Ev.ifF (by simp) (Ev.now false)
 ·
  rw [decide_eq_false hn]
  refine ⟨false, ?_, Ev.some_bind (Ev.ifF (by simp) (Ev.now false))⟩
  simp only [Bool.false_eq_true, false_iff]
  intro h
  have := h.len
  omega
theorem in_eq (a b c : Int) : impl_in.f a b c = some (decide (b ≤ a ∧ a ≤ c)) := by
 unfold impl_in.f
 by_cases h : b ≤ a
 ·
  rw [if_pos (by omega)]; simp [h]
 ·
  rw [if_neg (by omega)]; simp [h]
abbrev Nd := S65
theorem bytesLess_eq : ∀ (x y : Txt), Op.bytesLess x y = decide (x < y)
 | [], [] => by rw [decide_eq_false (txt_irrefl [])]; rfl
 | _ :: _, [] => by rw [decide_eq_false (List.not_lt_nil _)]; rfl
 | [], b :: y => by rw [decide_eq_true (List.nil_lt_cons b y)]; rfl
 | a :: x, b :: y => by
  rw [Op.bytesLess, bytesLess_eq x y, Bool.eq_iff_iff, decide_eq_true_eq, List.cons_lt_cons_iff]
  simp
theorem less_eq (x y : Txt) : cmp_Less_string.f (B x) (B y) = some (decide (x < y)) := by
 unfold cmp_Less_string.f cmp_isNaN_string.f
 rw [toList_B, toList_B, ← bytesLess_eq]
 simp
def Srt (ws : List Txt) : Prop := ∀ j, j + 1 < ws.length → ¬ ws.getD (j + 1) [] < ws.getD j []
theorem Srt.le {ws : List Txt} (h : Srt ws) (i : Nat) : ∀ d, i + d < ws.length → ¬ ws.getD (i + d) [] < ws.getD i []
 | 0, _ => txt_irrefl _
 | d + 1, hd => fun hlt => by
  have h1 := h.le i d (by omega)
  have h2 := h (i + d) (by omega)
  exact h1 (List.lt_of_le_of_lt (List.not_lt.1 h2) hlt)
theorem srt_asc {ws : List Txt} (h : Asc ws) : Srt ws := fun j hj => txt_asymm (asc_get h hj (Nat.lt_succ_self j))
theorem half_eq (i j : Nat) (h : i + j ≤ 4611686018427387903) : wrap64 ((IntKind.u64.wrap (wrap64 ((i : Int) + (j : Int)))) / 2) = (((i + j) / 2 : Nat) : Int) := by
 have e1 : wrap64 ((i : Int) + (j : Int)) = ((i + j : Nat) : Int) := by rw [wrap64_id (by omega) (by omega)]; omega
 have e2 : IntKind.u64.wrap (((i + j : Nat) : Int)) = ((i + j : Nat) : Int) := by
  simp [IntKind.wrap, IntKind.bits, IntKind.signed]; omega
 rw [e1, e2, wrap64_id (by omega) (by omega)]
 omega
theorem search_loop (ws : List Txt) (p : Txt) (hl : ws.length ≤ 1000000000) (hs : Srt ws) : ∀ (d i j : Nat), i + d = j → j ≤ ws.length → (∀ m, m < i → ws.getD m [] < p) → (∀ m, j ≤ m → m < ws.length → ¬ ws.getD m [] < p) →
  ∃ q : Nat, q ≤ ws.length ∧ (∀ m, m < q → ws.getD m [] < p) ∧ (∀ m, q ≤ m → m < ws.length → ¬ ws.getD m [] < p) ∧ Ev (fun k => slices_BinarySearch_string_string.l0 k (ws.map B) (B p) (ws.length : Int) (i : Int) (j : Int)) ((q : Int), decide (p ∈ ws)) := by
 intro d
 induction d using Nat.strongRecOn with
 | _ d ih =>
  intro i j h1 h2 h3 h4
  by_cases hij : i < j
  ·
   have hh : (i + j) / 2 < ws.length := by omega
   by_cases hlt : ws.getD ((i + j) / 2) [] < p
   ·
    obtain ⟨q, q1, q2, q3, q4⟩ := ih (j - ((i + j) / 2 + 1)) (by omega) ((i + j) / 2 + 1) j (by omega) h2 (fun m hm => by
     by_cases e : m = (i + j) / 2
     ·
      rw [e]; exact hlt
     ·
      by_cases hmi : m < i
      ·
       exact h3 m hmi
      ·
       have hle := hs.le m ((i + j) / 2 - m) (by omega)
       rw [show m + ((i + j) / 2 - m) = (i + j) / 2 from by omega] at hle
       exact List.lt_of_le_of_lt (List.not_lt.1 hle) hlt) h4
    refine ⟨q, q1, q2, q3, Ev.step (fun k => slices_BinarySearch_string_string.l0.eq_2 ..) (Ev.ifT (by omega) ?_)⟩
    rw [half_eq i j (by omega)]
    refine Ev.ifT (by omega) (Ev.ifT (by rw [List.length_map]; omega) ?_)
    rw [rdB ws _ hh, less_eq, decide_eq_true hlt]
    refine Ev.some_bind (Ev.ifT rfl ?_)
    rw [wrap64_succ _ (by omega)]
    exact q4
   ·
    obtain ⟨q, q1, q2, q3, q4⟩ := ih ((i + j) / 2 - i) (by omega) i ((i + j) / 2) (by omega) (by omega) h3 (fun m hm hml => by
     have hle := hs.le ((i + j) / 2) (m - (i + j) / 2) (by omega)
     rw [show (i + j) / 2 + (m - (i + j) / 2) = m from by omega] at hle
     exact fun hp => hlt (List.lt_of_le_of_lt (List.not_lt.1 hle) hp))
    refine ⟨q, q1, q2, q3, Ev.step (fun k => slices_BinarySearch_string_string.l0.eq_2 ..) (Ev.ifT (by omega) ?_)⟩
    rw [half_eq i j (by omega)]
    refine Ev.ifT (by omega) (Ev.ifT (by rw [List.length_map]; omega) ?_)
    rw [rdB ws _ hh, less_eq, decide_eq_false hlt]
    exact Ev.some_bind (Ev.ifF Bool.false_ne_true q4)
  ·
   obtain rfl : i = j := by omega
   refine ⟨i, h2, h3, h4, Ev.step (fun k => slices_BinarySearch_string_string.l0.eq_2 ..) (Ev.ifF (by omega) ?_)⟩
   by_cases hn : i < ws.length
   ·
    refine Ev.ifT (by omega) (Ev.ifT (by omega) (Ev.ifT (by rw [List.length_map]; omega) ?_))
    rw [rdB ws i hn, toList_B, toList_B]
    by_cases e : ws.getD i [] = p
    ·
     rw [decide_eq_true (show p ∈ ws from e ▸ getD_mem hn)]
     exact Ev.ifT e (Ev.now _)
    ·
     have hm : ¬ p ∈ ws := fun hp => by
      obtain ⟨z1, z2⟩ := placeL_mem hp
      have hz : i ≤ placeL ws p := by
       by_cases hzi : placeL ws p < i
       ·
        have := h3 _ hzi; rw [z2] at this; exact absurd this (txt_irrefl _)
       ·
        omega
      have hle := hs.le i (placeL ws p - i) (by omega)
      rw [show i + (placeL ws p - i) = placeL ws p from by omega, z2] at hle
      exact e (txt_tri (h4 i (Nat.le_refl _) hn) hle)
     rw [decide_eq_false hm]
     refine Ev.ifF e ?_
     unfold slices_isNaN_string.f
     exact Ev.some_bind (Ev.ifF (by simp) (Ev.now _))
   ·
    have hm : ¬ p ∈ ws := fun hp => by
     obtain ⟨z1, z2⟩ := placeL_mem hp
     have := h3 _ (show placeL ws p < i by omega)
     rw [z2] at this
     exact txt_irrefl _ this
    rw [decide_eq_false hm]
    exact Ev.ifF (by omega) (Ev.now _)
theorem search_ev (ws : List Txt) (p : Txt) (hl : ws.length ≤ 1000000000) (hs : Srt ws) : ∃ q : Nat, q ≤ ws.length ∧ (∀ m, m < q → ws.getD m [] < p) ∧ (∀ m, q ≤ m → m < ws.length → ¬ ws.getD m [] < p) ∧ Ev (fun k => slices_BinarySearch_string_string.f k (ws.map B) (B p)) ((q : Int), decide (p ∈ ws)) := by
 unfold slices_BinarySearch_string_string.f
 have := search_loop ws p hl hs ws.length 0 ws.length (by omega) (Nat.le_refl _) (fun m hm => absurd hm (Nat.not_lt_zero _)) (fun m h1 h2 => absurd h2 (by omega))
 rw [List.length_map]
 exact this
def prefGo : List Nd → List Txt → Option (List Txt)
 | [], acc => some acc
 | n :: r, acc => if 0 ≤ n.f1 ∧ n.f1 < (acc.length : Int) ∧ 0 ≤ n.f0 ∧ n.f0 ≤ 25 then prefGo r (acc ++ [acc.getD n.f1.toNat [] ++ [UInt8.ofNat (97 + n.f0.toNat)]]) else none
def prefR : Option (List Txt) → List ByteArray × Bool
 | some ps => (ps.map B, true)
 | none => ([], false)
theorem letter_eq (n : Int) (h0 : 0 ≤ n) (h1 : n ≤ 25) : impl_letter.f n = some (B [UInt8.ofNat (97 + n.toNat)]) := by
 unfold impl_letter.f
 rw [strOfNums_B]
 congr 3
 rw [wrap64_id (by omega) (by omega)]
 congr 1
 omega
theorem getD_le {acc : List Txt} {b : Nat} (h : ∀ p ∈ acc, p.length ≤ b) (n : Nat) : (acc.getD n []).length ≤ b := by
 by_cases hn : n < acc.length
 ·
  exact h _ (getD_mem hn)
 ·
  rw [List.getD_eq_getElem?_getD, List.getElem?_eq_none (by omega)]; simp
theorem pref_loop (N' : List Nd) (hN : N'.length ≤ 1000000) : ∀ (d i : Nat) (acc : List Txt), i + d = N'.length → acc.length = i + 1 → (∀ p ∈ acc, p.length ≤ i) →
  Ev (fun k => impl_Trie_prefixes.l0 k (acc.map B) N' (N'.length : Int) (i : Int)) (prefR (prefGo (N'.drop i) acc)) := by
 intro d
 induction d with
 | zero =>
  intro i acc h1 h2 h3
  rw [List.drop_of_length_le (by omega)]
  exact Ev.step (fun k => impl_Trie_prefixes.l0.eq_2 ..) (Ev.ifF (by omega) (Ev.now _))
 | succ d ih =>
  intro i acc h1 h2 h3
  have hi : i < N'.length := by omega
  rw [List.drop_eq_getElem_cons hi]
  refine Ev.step (fun k => impl_Trie_prefixes.l0.eq_2 ..) (Ev.ifT (by omega) (Ev.ifT (by omega) (Ev.ifT (by omega) ?_)))
  rw [rd_get N' i hi, in_eq]
  unfold prefGo
  by_cases ha : 0 ≤ N'[i].f1 ∧ N'[i].f1 ≤ (i : Int)
  ·
   rw [decide_eq_true ha]
   refine Ev.some_bind (Ev.ifT rfl ?_)
   rw [in_eq]
   by_cases hb : 0 ≤ N'[i].f0 ∧ N'[i].f0 ≤ 25
   ·
    rw [decide_eq_true hb, if_pos ⟨ha.1, by omega, hb.1, hb.2⟩]
    refine Ev.some_bind (Ev.ifT rfl (Ev.ifT ha.1 (Ev.ifT (by rw [List.length_map]; omega) ?_)))
    rw [letter_eq _ hb.1 hb.2]
    refine Ev.some_bind ?_
    obtain ⟨m, hm⟩ : ∃ m : Nat, N'[i].f1 = (m : Int) := ⟨N'[i].f1.toNat, by omega⟩
    have hml : m < acc.length := by omega
    have hmb := getD_le h3 m
    rw [hm, rdB acc m hml, Int.toNat_natCast]
    refine Ev.ifT (by rw [size_B, size_B, List.length_singleton]; omega) (Ev.ifT (by rw [List.length_map]; omega) ?_)
    rw [append_B, wrap64_succ i (by omega)]
    have := ih (i + 1) (acc ++ [acc.getD m [] ++ [UInt8.ofNat (97 + N'[i].f0.toNat)]]) (by omega) (by simp; omega) (fun p hp => by
     rcases List.mem_append.1 hp with hp | hp
     ·
      have := h3 p hp; omega
     ·
      rw [List.mem_singleton.1 hp]; simp; simpa using hmb)
    rw [List.map_append, List.map_singleton] at this
    exact this
   ·
    rw [decide_eq_false hb, if_neg (fun h => hb h.2.2)]
    exact Ev.some_bind (Ev.ifF Bool.false_ne_true (Ev.now _))
  ·
   rw [decide_eq_false ha, if_neg (fun h => ha ⟨h.1, by omega⟩)]
   exact Ev.some_bind (Ev.ifF Bool.false_ne_true (Ev.now _))
def prefN (N : List Nd) : Option (List Txt) := if 1 ≤ N.length ∧ N.length ≤ 481 then prefGo (N.drop 1) [[]] else none
theorem prefixes_ev (N : List Nd) : Ev (fun k => impl_Trie_prefixes.f k N) (prefR (prefN N)) := by
 unfold impl_Trie_prefixes.f prefN
 simp only [in_eq]
 by_cases h : 1 ≤ N.length ∧ N.length ≤ 481
 ·
  rw [if_pos h, decide_eq_true (show (1 : Int) ≤ (N.length : Int) ∧ (N.length : Int) ≤ 481 by omega)]
  refine Ev.some_bind (Ev.ifT rfl (Ev.ifT (by omega) (Ev.some_bind ?_)))
  exact pref_loop (N.drop 1) (by rw [List.length_drop]; omega) (N.drop 1).length 0 [[]] (by omega) rfl (by simp)
 ·
  rw [if_neg h, decide_eq_false (show ¬ ((1 : Int) ≤ (N.length : Int) ∧ (N.length : Int) ≤ 481) by omega)]
  exact Ev.some_bind (Ev.ifF Bool.false_ne_true (Ev.now _))
theorem letterB_of (m : Nat) (h : m ≤ 25) : letterB (UInt8.ofNat (97 + m)) = true := by
 have : (UInt8.ofNat (97 + m)).toNat = 97 + m := by simp; omega
 simp only [letterB, this, decide_eq_true_eq]; omega
theorem prefGo_ok : ∀ (r : List Nd) (acc ps : List Txt), prefGo r acc = some ps → (∀ p ∈ acc, ∀ c ∈ p, letterB c = true) → (∀ p ∈ ps, ∀ c ∈ p, letterB c = true) ∧ ps.length = acc.length + r.length
 | [], acc, ps, h, ha => by
  obtain rfl := Option.some.inj h
  exact ⟨ha, rfl⟩
 | n :: r, acc, ps, h, ha => by
  unfold prefGo at h
  by_cases hc : 0 ≤ n.f1 ∧ n.f1 < (acc.length : Int) ∧ 0 ≤ n.f0 ∧ n.f0 ≤ 25
  ·
   rw [if_pos hc] at h
   obtain ⟨h1, h2⟩ := prefGo_ok r _ ps h (fun p hp c hcp => by
    rcases List.mem_append.1 hp with hp | hp
    ·
     exact ha p hp c hcp
    ·
     rw [List.mem_singleton.1 hp] at hcp
     rcases List.mem_append.1 hcp with hcp | hcp
     ·
      exact ha _ (getD_mem (by omega)) c hcp
     ·
      rw [List.mem_singleton.1 hcp]; exact letterB_of _ (by omega))
   exact ⟨h1, by rw [h2]; simp; omega⟩
  ·
   rw [if_neg hc] at h; cases h
theorem letter_last {p : Txt} (hw : wordL p = true) (h : p ≠ []) : UInt8.ofNat (97 + (ltrOf p).toNat) = p.getD (p.length - 1) 0 := by
 obtain ⟨h1, h2, h3⟩ := ltrOf_bd hw h
 have h4 := letter_bd ((wordL_iff.1 hw).1 _ (getLast_mem h))
 have e : 97 + (ltrOf p).toNat = (p.getD (p.length - 1) 0).toNat := by omega
 rw [e]; simp
theorem trN_get {P ws : List Txt} (i : Nat) (h : i < (trN P ws).length) : (trN P ws)[i] = mkN (ndL P ws (P.getD i [])) := by
 have h2 : i < P.length := by rwa [trN_length] at h
 rw [← rdN P ws i h2, rd_get _ i h]
theorem prefGo_tr {P : List Txt} (ws : List Txt) (hA : Asc P) (hC : Clo P) (hW : ∀ p ∈ P, wordL p = true) : ∀ (d i : Nat), i + d = P.length → 0 < i → prefGo ((trN P ws).drop i) (P.take i) = some P := by
 intro d
 induction d with
 | zero =>
  intro i h1 h2
  rw [List.drop_of_length_le (by rw [trN_length]; omega), List.take_of_length_le (by omega)]
  rfl
 | succ d ih =>
  intro i h1 h2
  have hi : i < P.length := by omega
  have hit : i < (trN P ws).length := by rw [trN_length]; exact hi
  have hne := clo_pos hA hC hi h2
  have hm := getD_mem hi
  obtain ⟨j1, j2⟩ := clo_parent hA hC hi h2
  obtain ⟨_, b1, b2⟩ := ltrOf_bd (hW _ hm) hne
  rw [List.drop_eq_getElem_cons hit, trN_get i hit]
  have hx : mkN (ndL P ws (P.getD i [])) = ⟨ltrOf (P.getD i []), (placeL P (P.getD i []).dropLast : Int), decide (P.getD i [] ∈ ws)⟩ := by unfold mkN ndL; rw [if_neg hne, if_neg hne]
  rw [hx]
  unfold prefGo
  have hl : (P.take i).length = i := by rw [List.length_take]; omega
  rw [if_pos ⟨Int.natCast_nonneg _, by show ((placeL P (P.getD i []).dropLast : Nat) : Int) < ((P.take i).length : Int); rw [hl]; exact Int.ofNat_lt.2 j1, b1, b2⟩]
  simp only [Int.toNat_natCast]
  have hg : (P.take i).getD (placeL P (P.getD i []).dropLast) [] = (P.getD i []).dropLast := by
   rw [getD_lt [] (by rw [hl]; exact j1), List.getElem_take, ← getD_lt [] (by omega), j2]
  rw [hg, letter_last (hW _ hm) hne, dropLast_getD _ hne, ← take_succ_getD [] hi]
  exact ih (i + 1) (by omega) (by omega)
theorem prefN_tr {ws : List Txt} (h : OkW ws) : prefN (trN (preL ws) ws) = some (preL ws) := by
 obtain ⟨z1, z2⟩ := clo_zero (asc_preL ws) (clo_preL ws)
 unfold prefN
 rw [trN_length, if_pos ⟨z1, h.pre⟩]
 have := prefGo_tr ws (asc_preL ws) (clo_preL ws) (fun p hp => preL_word h.word hp) ((preL ws).length - 1) 1 (by omega) (by omega)
 rw [show (preL ws).take 1 = [[]] from by rw [take_succ_getD [] z1, z2]; rfl] at this
 exact this
theorem prefixes_tr {ws : List Txt} (h : OkW ws) : Ev (fun k => impl_Trie_prefixes.f k (trN (preL ws) ws)) ((preL ws).map B, true) := by
 have := prefixes_ev (trN (preL ws) ws)
 rw [prefN_tr h] at this
 exact this
theorem trieOf_in (ws0 xs : List Txt) (w : Txt) (hw : w.length ≤ 12) (i : Nat) (hi : i ≤ 100000) (r : List Nd) (acc2 : List Txt) (hr : Ev (fun k => impl_trieOf.l0 k (ws0.map B) (acc2.map B) (xs.map B) (xs.length : Int) ((i + 1 : Nat) : Int)) r) :
  ∀ (d n : Nat) (acc : List Txt), n + d = w.length → acc ++ begF w (n + 1) d = acc2 → acc2.length ≤ 1000000 → Ev (fun k => impl_trieOf.l1 k (ws0.map B) (acc.map B) (B w) (xs.map B) (xs.length : Int) (i : Int) (w.length : Int) (n : Int)) r := by
 intro d
 induction d with
 | zero =>
  intro n acc h1 h2 h3
  rw [begF, List.append_nil] at h2
  subst h2
  refine Ev.step (fun k => impl_trieOf.l1.eq_2 ..) (Ev.ifF (by omega) ?_)
  rw [wrap64_succ i (by omega)]
  exact hr
 | succ d ih =>
  intro n acc h1 h2 h3
  have hl : acc.length ≤ 1000000 := by rw [← h2, List.length_append] at h3; omega
  refine Ev.step (fun k => impl_trieOf.l1.eq_2 ..) (Ev.ifT (by omega) ?_)
  rw [wrap64_succ n (by omega)]
  refine Ev.ifT (by omega) (Ev.ifT (by rw [size_B]; omega) (Ev.ifT (by rw [List.length_map]; omega) ?_))
  rw [extract_B, List.drop_zero, Int.toNat_natCast, Nat.sub_zero]
  have := ih (n + 1) (acc ++ [w.take (n + 1)]) (by omega) (by rw [← h2, begF]; simp) h3
  rw [List.map_append, List.map_singleton] at this
  exact this
theorem trieOf_out (ws0 xs : List Txt) (hl : xs.length ≤ 1000) (hw : ∀ w ∈ xs, w.length ≤ 12) (r : List Nd) (hr : Ev (fun k => impl_trieOf.l2 k (ws0.map B) ((preL xs).map B) ((preL xs).length : Int) 0 []) r) :
  ∀ (d i : Nat) (acc : List Txt), i + d = xs.length → acc ++ (xs.drop i).flatMap begs = [] :: xs.flatMap begs → Ev (fun k => impl_trieOf.l0 k (ws0.map B) (acc.map B) (xs.map B) (xs.length : Int) (i : Int)) r := by
 have hall := flatMap_begs_length xs hw
 have hpl := preL_length hw
 intro d
 induction d with
 | zero =>
  intro i acc h1 h2
  rw [List.drop_of_length_le (by omega), List.flatMap_nil, List.append_nil] at h2
  subst h2
  refine Ev.step (fun k => impl_trieOf.l0.eq_2 ..) (Ev.ifF (by omega) ?_)
  rw [set_eq _ (by rw [List.length_cons]; omega)]
  refine Ev.some_bind (Ev.ifT ?_ ?_)
  ·
   unfold SM.okL
   rw [Bool.and_eq_true, List.all_eq_true, decide_eq_true_eq]
   refine ⟨fun x hx => ?_, by rw [List.length_map]; show (preL xs).length ≤ _; omega⟩
   obtain ⟨y, hy, rfl⟩ := List.mem_map.1 hx
   have hy' : y ∈ preL xs := hy
   have : y.length ≤ 12 := by
    rcases mem_preL.1 hy' with rfl | ⟨w, hw', _, hp⟩
    ·
     simp
    ·
     exact Nat.le_trans hp.length_le (hw w hw')
   rw [decide_eq_true_eq, size_B]; omega
  ·
   rw [List.length_map]
   exact hr
 | succ d ih =>
  intro i acc h1 h2
  have hi : i < xs.length := by omega
  rw [drop_cons_getD [] hi, List.flatMap_cons, ← List.append_assoc] at h2
  refine Ev.step (fun k => impl_trieOf.l0.eq_2 ..) (Ev.ifT (by omega) (Ev.ifT (by omega) (Ev.ifT (by rw [List.length_map]; omega) ?_)))
  rw [rdB xs i hi, size_B]
  have hlen : (acc ++ begs (xs.getD i [])).length ≤ 1000000 := by
   have := congrArg List.length h2
   rw [List.length_append, List.length_cons] at this
   omega
  exact trieOf_in ws0 xs _ (hw _ (getD_mem hi)) i (by omega) r _ (ih (i + 1) _ (by omega) h2) (xs.getD i []).length 0 acc (by omega) (by rw [begs_begF]) hlen
theorem at_take {P : List Txt} (hA : Asc P) (q : Txt) (j : Nat) (hj : j < P.length) (hq : P.getD j [] = q) : ∀ n, n ≤ P.length → j < n → SM.at_ (List.take n (P.map B)) (B q) = (j : Int) := by
 intro n
 induction n with
 | zero => intro _ h; omega
 | succ n ih =>
  intro h1 h2
  have hn : n < P.length := by omega
  rw [← List.map_take, take_succ_getD [] hn, List.map_append, List.map_singleton]
  unfold SM.at_
  rw [List.reverse_append, List.reverse_singleton, List.singleton_append, SM.atR, data_B, data_B]
  by_cases e : P.getD n [] = q
  ·
   have : n = j := asc_inj hA hn hj (e.trans hq.symm)
   rw [if_pos e, List.length_reverse, List.length_map, List.length_take]; omega
  ·
   have hjn : j < n := by
    rcases Nat.lt_or_ge j n with h | h
    ·
     exact h
    ·
     have : j = n := by omega
     subst this; exact absurd hq e
   rw [if_neg e, List.map_take]
   exact ih (by omega) hjn
theorem trieOf_nodes {ws P : List Txt} (hs : Srt ws) (hA : Asc P) (hC : Clo P) (hW : ∀ p ∈ P, wordL p = true) (hP : P.length ≤ 100000) (hl : ws.length ≤ 100000) : ∀ (d i : Nat) (acc : List Nd), i + d = P.length → acc.length ≤ i →
  Ev (fun k => impl_trieOf.l2 k (ws.map B) (P.map B) (P.length : Int) (i : Int) acc) (acc ++ ((P.drop i).map fun p => mkN (ndL P ws p))) := by
 intro d
 induction d with
 | zero =>
  intro i acc h1 h2
  rw [List.drop_of_length_le (by omega), List.map_nil, List.append_nil]
  exact Ev.step (fun k => impl_trieOf.l2.eq_2 ..) (Ev.ifF (by omega) (Ev.now _))
 | succ d ih =>
  intro i acc h1 h2
  have hi : i < P.length := by omega
  have hm := getD_mem hi
  rw [drop_cons_getD [] hi, List.map_cons]
  refine Ev.step (fun k => impl_trieOf.l2.eq_2 ..) (Ev.ifT (by omega) (Ev.ifT (by omega) (Ev.ifT (by rw [List.length_map]; omega) ?_)))
  rw [rdB P i hi]
  obtain ⟨q, _, _, _, hq⟩ := search_ev ws (P.getD i []) (by omega) hs
  refine Ev.bind hq ?_
  have hcons : ∀ x : Nd, acc ++ (x :: (P.drop (i + 1)).map fun p => mkN (ndL P ws p)) = (acc ++ [x]) ++ (P.drop (i + 1)).map fun p => mkN (ndL P ws p) := fun x => by simp
  rw [hcons, toList_B]
  by_cases hp : P.getD i [] = []
  ·
   refine Ev.ifT hp (Ev.ifT (by omega) ?_)
   have hx : mkN (ndL P ws (P.getD i [])) = ⟨-1, -1, decide (P.getD i [] ∈ ws)⟩ := by unfold mkN ndL; rw [if_pos hp, if_pos hp]
   rw [hx, wrap64_succ i (by omega)]
   exact ih (i + 1) _ (by omega) (by simp; omega)
  ·
   have h0 : 0 < i := by
    rcases Nat.eq_zero_or_pos i with e | e
    ·
     rw [e, (clo_zero hA hC).2] at hp; exact absurd rfl hp
    ·
     exact e
   have hlen := List.length_pos_iff.2 hp
   have h12 := (wordL_iff.1 (hW _ hm)).2
   obtain ⟨j1, j2⟩ := clo_parent hA hC hi h0
   have hw1 : wrap64 (((B (P.getD i [])).size : Int) - 1) = ((P.getD i []).length - 1 : Nat) := by rw [size_B, wrap64_id (by omega) (by omega)]; omega
   rw [hw1]
   refine Ev.ifF hp (Ev.ifT (by omega) (Ev.ifT (by rw [size_B]; omega) (Ev.ifT (by rw [size_B]; omega) (Ev.ifT (by omega) ?_))))
   rw [extract_B, List.drop_zero, Int.toNat_natCast, Int.toNat_natCast, Nat.sub_zero, ← List.dropLast_eq_take, at_take hA _ _ (by omega) j2 (i + 1) (by omega) (by omega)]
   have hx : mkN (ndL P ws (P.getD i [])) = ⟨((bt (B (P.getD i [])) (((P.getD i []).length - 1 : Nat) : Int)) - 97) % 256, (placeL P (P.getD i []).dropLast : Int), decide (P.getD i [] ∈ ws)⟩ := by
    unfold mkN ndL
    rw [if_neg hp, if_neg hp, bt_B _ _ (by omega)]
    rfl
   rw [hx, wrap64_succ i (by omega)]
   exact ih (i + 1) _ (by omega) (by simp; omega)
theorem trieOf_srt {ws : List Txt} (hs : Srt ws) (hw : ∀ w ∈ ws, wordL w = true) (hl : ws.length ≤ 1000) : Ev (fun k => impl_trieOf.f k (ws.map B)) (trN (preL ws) ws) := by
 have hle : ∀ w ∈ ws, w.length ≤ 12 := fun w h => (wordL_iff.1 (hw w h)).2
 have hpl := preL_length hle
 have hn := trieOf_nodes hs (asc_preL ws) (clo_preL ws) (fun p hp => preL_word hw hp) (by omega) (by omega) (preL ws).length 0 [] (by omega) (by simp)
 rw [List.drop_zero, List.nil_append] at hn
 have e : (preL ws).map (fun p => mkN (ndL (preL ws) ws p)) = trN (preL ws) ws := by unfold trN nodesL; rw [List.map_map]; rfl
 rw [e] at hn
 unfold impl_trieOf.f
 rw [List.length_map]
 exact trieOf_out ws ws hl hle _ hn ws.length 0 [[]] (by omega) rfl
theorem trieOf_ev {ws : List Txt} (h : OkW ws) : Ev (fun k => impl_trieOf.f k (ws.map B)) (trN (preL ws) ws) := trieOf_srt (srt_asc h.asc) h.word (by have := h.len; omega)
theorem trN_set {ws : List Txt} : trN (preL ws) ws = trN (preL (setL ws)) (setL ws) := by
 have e : preL (setL ws) = preL ws := preL_congr fun w => mem_setL ws w
 rw [e]
 unfold trN nodesL
 rw [List.map_map, List.map_map]
 refine List.map_congr_left fun p _ => ?_
 show mkN (ndL (preL ws) ws p) = mkN (ndL (preL ws) (setL ws) p)
 unfold ndL
 rw [show decide (p ∈ ws) = decide (p ∈ setL ws) from decide_eq_decide.2 (mem_setL ws p).symm]
def wordsGo : List Nd → List Txt → List Txt
 | n :: r, p :: ps => if n.f2 = true then p :: wordsGo r ps else wordsGo r ps
 | _, _ => []
theorem wordsGo_mem : ∀ (N : List Nd) (ps : List Txt) (w : Txt), w ∈ wordsGo N ps → w ∈ ps
 | n :: r, p :: ps, w, h => by
  unfold wordsGo at h
  by_cases hf : n.f2 = true
  ·
   rw [if_pos hf] at h
   rcases List.mem_cons.1 h with e | h
   ·
    rw [e]; exact List.mem_cons_self
   ·
    exact List.mem_cons_of_mem _ (wordsGo_mem r ps w h)
  ·
   rw [if_neg hf] at h
   exact List.mem_cons_of_mem _ (wordsGo_mem r ps w h)
 | [], _, _, h => by simp [wordsGo] at h
 | _ :: _, [], _, h => by simp [wordsGo] at h
theorem wordsGo_len : ∀ (N : List Nd) (ps : List Txt), (wordsGo N ps).length ≤ N.length
 | n :: r, p :: ps => by
  have := wordsGo_len r ps
  unfold wordsGo
  by_cases hf : n.f2 = true
  ·
   rw [if_pos hf, List.length_cons, List.length_cons]; omega
  ·
   rw [if_neg hf, List.length_cons]; omega
 | [], _ => by simp [wordsGo]
 | _ :: _, [] => by simp [wordsGo]
theorem wordsGo_tr (P ws : List Txt) : ∀ Q : List Txt, wordsGo (Q.map fun p => mkN (ndL P ws p)) Q = Q.filter fun p => decide (p ∈ ws)
 | [] => rfl
 | q :: Q => by
  rw [List.map_cons, wordsGo, wordsGo_tr P ws Q, List.filter_cons]
  rfl
theorem words_loop (N : List Nd) (ps : List Txt) (hN : N.length ≤ 1000000) (hp : ps.length = N.length) : ∀ (d i : Nat) (acc : List Txt), i + d = N.length → acc.length ≤ i →
  Ev (fun k => impl_Trie_words.l0 k (ps.map B) (acc.map B) N (N.length : Int) (i : Int)) ((acc ++ wordsGo (N.drop i) (ps.drop i)).map B) := by
 intro d
 induction d with
 | zero =>
  intro i acc h1 h2
  rw [List.drop_of_length_le (by omega)]
  exact Ev.step (fun k => impl_Trie_words.l0.eq_2 ..) (Ev.ifF (by omega) (by simpa [wordsGo] using Ev.now _))
 | succ d ih =>
  intro i acc h1 h2
  have hi : i < N.length := by omega
  rw [List.drop_eq_getElem_cons hi, drop_cons_getD [] (show i < ps.length by omega), wordsGo]
  refine Ev.step (fun k => impl_Trie_words.l0.eq_2 ..) (Ev.ifT (by omega) (Ev.ifT (by omega) (Ev.ifT (by omega) ?_)))
  rw [rd_get N i hi]
  by_cases hf : N[i].f2 = true
  ·
   rw [if_pos hf]
   refine Ev.ifT hf (Ev.ifT (by rw [List.length_map]; omega) (Ev.ifT (by rw [List.length_map]; omega) ?_))
   rw [rdB ps i (by omega), wrap64_succ i (by omega)]
   have := ih (i + 1) (acc ++ [ps.getD i []]) (by omega) (by simp; omega)
   rw [List.map_append (l₁ := acc), List.map_singleton, List.append_assoc] at this
   exact this
  ·
   rw [if_neg hf]
   refine Ev.ifF hf ?_
   rw [wrap64_succ i (by omega)]
   exact ih (i + 1) acc (by omega) (by omega)
theorem words_of {N : List Nd} {ps : List Txt} (h : prefN N = some ps) : N.length ≤ 481 ∧ ps.length = N.length ∧ (∀ p ∈ ps, ∀ c ∈ p, letterB c = true) ∧ Ev (fun k => impl_Trie_words.f k N) ((wordsGo N ps).map B) := by
 have hp := prefixes_ev N
 rw [h] at hp
 unfold prefN at h
 by_cases hn : 1 ≤ N.length ∧ N.length ≤ 481
 ·
  rw [if_pos hn] at h
  obtain ⟨h1, h2⟩ := prefGo_ok _ _ _ h (by simp)
  rw [List.length_drop, List.length_singleton] at h2
  refine ⟨hn.2, by omega, h1, ?_⟩
  unfold impl_Trie_words.f
  refine Ev.bind hp ?_
  exact words_loop N ps (by omega) (by omega) N.length 0 [] (by omega) (by simp)
 ·
  rw [if_neg hn] at h; cases h
theorem words_ev {ws : List Txt} (h : OkW ws) : Ev (fun k => impl_Trie_words.f k (trN (preL ws) ws)) (ws.map B) := by
 obtain ⟨_, _, _, h4⟩ := words_of (prefN_tr h)
 have e : wordsGo (trN (preL ws) ws) (preL ws) = ws := by
  have : trN (preL ws) ws = (preL ws).map fun p => mkN (ndL (preL ws) ws p) := by unfold trN nodesL; rw [List.map_map]; rfl
  rw [this, wordsGo_tr, filter_preL h.asc]
 rwa [e] at h4
theorem isSorted_loop (ws : List Txt) (hl : ws.length ≤ 4611686018427387903) : ∀ (n : Nat), n < ws.length → ∃ b : Bool, (b = true ↔ ∀ j, j < n → ¬ ws.getD (j + 1) [] < ws.getD j []) ∧ Ev (fun k => slices_IsSorted_string_string.l0 k (ws.map B) (n : Int)) b := by
 intro n
 induction n with
 | zero =>
  intro _
  exact ⟨true, by simp, Ev.step (fun k => slices_IsSorted_string_string.l0.eq_2 ..) (Ev.ifF (by simp) (Ev.now _))⟩
 | succ n ih =>
  intro hn
  have hw : wrap64 (((n + 1 : Nat) : Int) - 1) = (n : Int) := by rw [wrap64_id (by omega) (by omega)]; omega
  by_cases hlt : ws.getD (n + 1) [] < ws.getD n []
  ·
   refine ⟨false, ?_, Ev.step (fun k => slices_IsSorted_string_string.l0.eq_2 ..) (Ev.ifT (by omega) (Ev.ifT (by omega) (Ev.ifT (by rw [List.length_map]; omega) (Ev.ifT (by rw [hw]; omega) (Ev.ifT (by rw [hw, List.length_map]; omega) ?_)))))⟩
   ·
    simp only [Bool.false_eq_true, false_iff]
    exact fun h => h n (Nat.lt_succ_self n) hlt
   ·
    rw [hw, rdB ws (n + 1) hn, rdB ws n (by omega), less_eq, decide_eq_true hlt]
    exact Ev.some_bind (Ev.ifT rfl (Ev.now _))
  ·
   obtain ⟨b, hb, he⟩ := ih (by omega)
   refine ⟨b, hb.trans ⟨fun h j hj => ?_, fun h j hj => h j (by omega)⟩, Ev.step (fun k => slices_IsSorted_string_string.l0.eq_2 ..) (Ev.ifT (by omega) (Ev.ifT (by omega) (Ev.ifT (by rw [List.length_map]; omega) (Ev.ifT (by rw [hw]; omega) (Ev.ifT (by rw [hw, List.length_map]; omega) ?_)))))⟩
   ·
    by_cases e : j = n
    ·
     rw [e]; exact hlt
    ·
     exact h j (by omega)
   ·
    rw [hw, rdB ws (n + 1) hn, rdB ws n (by omega), less_eq, decide_eq_false hlt]
    exact Ev.some_bind (Ev.ifF Bool.false_ne_true he)
theorem isSorted_ev (ws : List Txt) (hl : ws.length ≤ 4611686018427387903) : ∃ b : Bool, (b = true ↔ Srt ws) ∧ Ev (fun k => slices_IsSorted_string_string.f k (ws.map B)) b := by
 unfold slices_IsSorted_string_string.f
 rcases Nat.eq_zero_or_pos ws.length with h0 | h0
 ·
  refine ⟨true, ⟨fun _ j hj => by omega, fun _ => rfl⟩, ?_⟩
  rw [List.length_map, h0]
  exact Ev.step (fun k => slices_IsSorted_string_string.l0.eq_2 ..) (Ev.ifF (by rw [wrap64_id (by omega) (by omega)]; omega) (Ev.now _))
 ·
  obtain ⟨b, hb, he⟩ := isSorted_loop ws hl (ws.length - 1) (by omega)
  refine ⟨b, hb.trans ⟨fun h j hj => h j (by omega), fun h j hj => h j (by omega)⟩, ?_⟩
  rw [List.length_map, show wrap64 ((ws.length : Int) - 1) = ((ws.length - 1 : Nat) : Int) from by rw [wrap64_id (by omega) (by omega)]; omega]
  exact he
theorem equal_loop (M N : List Nd) (hM : M.length ≤ 4611686018427387903) (he : M.length = N.length) : ∀ (d i : Nat), i + d = M.length → Ev (fun k => impl_Node.l0 k M N (M.length : Int) (i : Int)) (decide (M.drop i = N.drop i)) := by
 intro d
 induction d with
 | zero =>
  intro i h1
  refine Ev.step (fun k => impl_Node.l0.eq_2 ..) (Ev.ifF (by omega) ?_)
  rw [decide_eq_true (show M.drop i = N.drop i by rw [List.drop_of_length_le (by omega), List.drop_of_length_le (by omega)])]
  exact Ev.now _
 | succ d ih =>
  intro i h1
  refine Ev.step (fun k => impl_Node.l0.eq_2 ..) (Ev.ifT (by omega) (Ev.ifT (by omega) (Ev.ifT (by omega) (Ev.ifT (by omega) ?_))))
  rw [node_ne, rd_get M i (by omega), rd_get N i (by omega), List.drop_eq_getElem_cons (show i < M.length by omega), List.drop_eq_getElem_cons (show i < N.length by omega)]
  by_cases e : M[i] = N[i]
  ·
   refine Ev.ifF (by simp [e]) ?_
   rw [wrap64_succ i (by omega), show decide (M[i] :: M.drop (i + 1) = N[i] :: N.drop (i + 1)) = decide (M.drop (i + 1) = N.drop (i + 1)) from decide_eq_decide.2 ⟨fun h => (List.cons.inj h).2, fun h => by rw [e, h]⟩]
   exact ih (i + 1) (by omega)
  ·
   refine Ev.ifT (by simp [e]) ?_
   rw [show decide (M[i] :: M.drop (i + 1) = N[i] :: N.drop (i + 1)) = false from decide_eq_false fun h => e (List.cons.inj h).1]
   exact Ev.now _
theorem equal_ev (M N : List Nd) (hM : M.length ≤ 4611686018427387903) : Ev (fun k => impl_Node.f k M N) (decide (M = N)) := by
 unfold impl_Node.f
 by_cases he : M.length = N.length
 ·
  refine Ev.ifT (by omega) ?_
  have := equal_loop M N hM he M.length 0 (by omega)
  rwa [List.drop_zero, List.drop_zero] at this
 ·
  rw [decide_eq_false fun e => he (by rw [e])]
  exact Ev.ifF (by omega) (Ev.now _)
theorem isTrie_ev (N : List Nd) : ∃ b : Bool, (b = true ↔ IsTr N) ∧ Ev (fun k => impl_isTrie.f k N) b := by
 have hpre := prefixes_ev N
 have no : ∀ M : List Nd, Ev (fun k => impl_isTrie.j0 k true M) false := fun M => Ev.step (fun k => impl_isTrie.j0.eq_2 ..) (Ev.ifT rfl (Ev.now _))
 cases hp : prefN N with
 | none =>
  rw [hp] at hpre
  refine ⟨false, ?_, ?_⟩
  ·
   simp only [Bool.false_eq_true, false_iff]
   rintro ⟨ws, h, rfl⟩
   rw [prefN_tr h] at hp; cases hp
  ·
   unfold impl_isTrie.f
   exact Ev.bind hpre (Ev.ifF Bool.false_ne_true (no N))
 | some ps =>
  rw [hp] at hpre
  obtain ⟨w1, w2, w3, w4⟩ := words_of hp
  have hany : impl_isTrie_any.f (ps.map B) = some (decide (∃ p ∈ ps, 12 < p.length)) := by
   unfold impl_isTrie_any.f
   congr 1
   rw [Bool.eq_iff_iff, List.any_eq_true, decide_eq_true_eq]
   constructor
   ·
    rintro ⟨x, hx, e⟩
    obtain ⟨y, hy, rfl⟩ := List.mem_map.1 hx
    refine ⟨y, hy, ?_⟩
    unfold impl_isTrie_any.p at e
    rw [size_B, decide_eq_true_eq] at e
    omega
   ·
    rintro ⟨y, hy, e⟩
    refine ⟨B y, List.mem_map.2 ⟨y, hy, rfl⟩, ?_⟩
    unfold impl_isTrie_any.p
    rw [size_B, decide_eq_true_eq]
    omega
  by_cases hlong : ∃ p ∈ ps, 12 < p.length
  ·
   rw [decide_eq_true hlong] at hany
   refine ⟨false, ?_, ?_⟩
   ·
    simp only [Bool.false_eq_true, false_iff]
    rintro ⟨ws, h, rfl⟩
    rw [prefN_tr h] at hp
    obtain rfl := Option.some.inj hp
    obtain ⟨p, hpm, hpl⟩ := hlong
    have := (wordL_iff.1 (preL_word h.word hpm)).2
    omega
   ·
    unfold impl_isTrie.f
    refine Ev.bind hpre (Ev.ifT rfl ?_)
    show Ev (fun k => (impl_isTrie_any.f (ps.map B)).bind _) false
    rw [hany]
    exact Ev.some_bind (no N)
  ·
   rw [decide_eq_false hlong] at hany
   have hword : ∀ w ∈ wordsGo N ps, wordL w = true := fun w hw => by
    have hm := wordsGo_mem N ps w hw
    refine wordL_iff.2 ⟨w3 w hm, ?_⟩
    rcases Nat.lt_or_ge 12 w.length with h | h
    ·
     exact absurd ⟨w, hm, h⟩ hlong
    ·
     exact h
   have hwl := wordsGo_len N ps
   have hcase : ∀ b : Bool, Ev (fun k => impl_isTrie.j0 k false N) b → Ev (fun k => impl_isTrie.f k N) b := fun b hb => by
    unfold impl_isTrie.f
    refine Ev.bind hpre (Ev.ifT rfl ?_)
    show Ev (fun k => (impl_isTrie_any.f (ps.map B)).bind _) b
    rw [hany]
    exact Ev.some_bind hb
   have hval : ∀ ws, OkW ws → N = trN (preL ws) ws → wordsGo N ps = ws := fun ws h e => by
    subst e
    rw [prefN_tr h] at hp
    obtain rfl := Option.some.inj hp
    have : trN (preL ws) ws = (preL ws).map fun p => mkN (ndL (preL ws) ws p) := by unfold trN nodesL; rw [List.map_map]; rfl
    rw [this, wordsGo_tr, filter_preL h.asc]
   by_cases h40 : (wordsGo N ps).length ≤ 40
   ·
    obtain ⟨b, hb, hsv⟩ := isSorted_ev (wordsGo N ps) (by omega)
    by_cases hs : Srt (wordsGo N ps)
    ·
     have hbt := hb.2 hs
     subst hbt
     refine ⟨decide (trN (preL (wordsGo N ps)) (wordsGo N ps) = N), ?_, hcase _ ?_⟩
     ·
      rw [decide_eq_true_eq]
      constructor
      ·
       intro e
       refine ⟨setL (wordsGo N ps), ⟨asc_setL _, Nat.le_trans (setL_length_le _) h40, fun w hw => hword w ((mem_setL _ w).1 hw)⟩, ?_⟩
       rw [← trN_set, e]
      ·
       rintro ⟨ws, h, e⟩
       rw [hval ws h e, e]
     ·
      refine Ev.step (fun k => impl_isTrie.j0.eq_2 ..) (Ev.ifF Bool.false_ne_true (Ev.bind w4 (Ev.ifT (by rw [List.length_map]; omega) (Ev.bind hsv (Ev.ifT rfl (Ev.bind (trieOf_srt hs hword (by omega)) (Ev.bind (equal_ev _ _ ?_) (Ev.now _))))))))
      rw [trN_length]
      have := preL_length (ws := wordsGo N ps) (fun w hw => (wordL_iff.1 (hword w hw)).2)
      omega
    ·
     have hbf : b = false := by
      cases b with
      | false => rfl
      | true => exact absurd (hb.1 rfl) hs
     subst hbf
     refine ⟨false, ?_, hcase _ (Ev.step (fun k => impl_isTrie.j0.eq_2 ..) (Ev.ifF Bool.false_ne_true (Ev.bind w4 (Ev.ifT (by rw [List.length_map]; omega) (Ev.bind hsv (Ev.ifF Bool.false_ne_true (Ev.now _)))))))⟩
     simp only [Bool.false_eq_true, false_iff]
     rintro ⟨ws, h, e⟩
     exact hs (by rw [hval ws h e]; exact srt_asc h.asc)
   ·
    refine ⟨false, ?_, hcase _ (Ev.step (fun k => impl_isTrie.j0.eq_2 ..) (Ev.ifF Bool.false_ne_true (Ev.bind w4 (Ev.ifF (by rw [List.length_map]; omega) (Ev.now _)))))⟩
    simp only [Bool.false_eq_true, false_iff]
    rintro ⟨ws, h, e⟩
    rw [hval ws h e] at h40
    exact h40 h.len
theorem eqNode_self (a b : Int) (c : Bool) : laws_eqNode.f a b c a b c = some true := by
 unfold laws_eqNode.f
 rw [if_pos rfl, if_pos rfl, if_neg (by simp)]
theorem eqNodeS_loop (N : List Nd) (hN : N.length ≤ 4611686018427387903) : ∀ (d i : Nat), i + d = N.length → Ev (fun k => laws_eqNodeS.l0 k N N (i : Int)) true := by
 intro d
 induction d with
 | zero => intro i h; exact Ev.step (fun k => laws_eqNodeS.l0.eq_2 ..) (Ev.ifF (by omega) (Ev.now _))
 | succ d ih =>
  intro i h
  refine Ev.step (fun k => laws_eqNodeS.l0.eq_2 ..) (Ev.ifT (by omega) (Ev.ifT (by omega) (Ev.ifT (by omega) ?_)))
  rw [eqNode_self]
  refine Ev.some_bind (Ev.ifT rfl ?_)
  rw [wrap64_succ i (by omega)]
  exact ih (i + 1) (by omega)
theorem eqTrie_ev (N : List Nd) (hN : N.length ≤ 4611686018427387903) : Ev (fun k => laws_eqTrie.f k N N) true := by
 unfold laws_eqTrie.f laws_eqNodeS.f
 exact Ev.bind (f := fun k t => if t = true then some true else some false) (Ev.ifT rfl (eqNodeS_loop N hN N.length 0 (by omega))) (Ev.ifT rfl (Ev.now _))
def toN (l : List S67) : List Nd := l.map fun x => ⟨x.f0, x.f1, x.f2⟩
theorem toN_length (l : List S67) : (toN l).length = l.length := by simp [toN]
theorem szTrie_eq (l : List S67) (h : l.length ≤ 9223372036854775807) : laws_szTrie.f l 1048576 = some (if l.length ≤ 1048576 then 1048576 - (l.length : Int) else -1) := by
 unfold laws_szTrie.f laws_szNodeS.f
 rw [wrap64_id (by omega) (by omega)]
 by_cases hs : l.length ≤ 1048576
 ·
  rw [if_neg (by omega), if_pos hs, Option.bind_some, if_neg (by omega)]
 ·
  rw [if_pos (by omega), if_neg hs, Option.bind_some, if_pos (by omega)]
theorem toNodeS_loop (l : List S67) (hl : l.length ≤ 1048576) : ∀ (d i : Nat), i + d = l.length → Ev (fun k => laws_toNodeS.l0 k l ((toN l).take i ++ List.replicate ((toN l).length - i) z65) (i : Int)) (toN l) := by
 intro d
 induction d with
 | zero =>
  intro i h
  rw [List.take_of_length_le (by rw [toN_length]; omega), show (toN l).length - i = 0 from by rw [toN_length]; omega, List.replicate_zero, List.append_nil]
  exact Ev.step (fun k => laws_toNodeS.l0.eq_2 ..) (Ev.ifF (by omega) (Ev.now _))
 | succ d ih =>
  intro i h
  have hi : i < l.length := by omega
  have hi2 : i < (toN l).length := by rw [toN_length]; exact hi
  have hlen : ((toN l).take i ++ List.replicate ((toN l).length - i) z65).length = l.length := by
   rw [List.length_append, List.length_take, List.length_replicate, toN_length]; omega
  refine Ev.step (fun k => laws_toNodeS.l0.eq_2 ..) (Ev.ifT (by omega) (Ev.ifT (by omega) ?_))
  unfold laws_toNode.f
  refine Ev.some_bind (Ev.ifT (by rw [hlen]; omega) ?_)
  have hx : (⟨(rd_T67 l (i : Int)).f0, (rd_T67 l (i : Int)).f1, (rd_T67 l (i : Int)).f2⟩ : Nd) = (toN l).getD i z65 := by
   unfold rd_T67 toN
   rw [Int.toNat_natCast, getD_lt _ hi, getD_lt _ (by simpa using hi), List.getElem_map]
  rw [hx, Int.toNat_natCast, fill_set _ _ _ hi2, wrap64_succ i (by omega)]
  exact ih (i + 1) (by omega)
theorem toTrie_ev (l : List S67) (hl : l.length ≤ 1048576) : Ev (fun k => laws_toTrie.f k l) (toN l) := by
 unfold laws_toTrie.f laws_toNodeS.f
 refine Ev.bind (f := fun k t => some t) (Ev.ifT (by omega) (Ev.ifT (by omega) ?_)) (Ev.now _)
 have := toNodeS_loop l hl l.length 0 (by omega)
 rw [List.take_zero, List.nil_append, toN_length, Nat.sub_zero] at this
 exact this
theorem trie_both (N : List Nd) : (IsTr N ∧ Ev (fun k => spec_l2Trie.f k N) true ∧ Ev (fun k => impl_isTrie.f k N) true) ∨ (¬ IsTr N ∧ Ev (fun k => spec_l2Trie.f k N) false ∧ Ev (fun k => impl_isTrie.f k N) false) := by
 obtain ⟨b1, c1, e1⟩ := l2Trie_ev N
 obtain ⟨b2, c2, e2⟩ := isTrie_ev N
 by_cases h : IsTr N
 ·
  obtain rfl := c1.2 h
  obtain rfl := c2.2 h
  exact .inl ⟨h, e1, e2⟩
 ·
  cases b1 with
  | true => exact absurd (c1.1 rfl) h
  | false =>
   cases b2 with
   | true => exact absurd (c2.1 rfl) h
   | false => exact .inr ⟨h, e1, e2⟩
end Go.Proofs.Ytnnkedeohfbkeaa.L
namespace Go.Proofs.Ytnnkedeohfbkeaa.L
open Go.RowKit Go.Proofs.Ytnnkedeohfbkeaa.P Go.Proofs.Ytnnkedeohfbkeaa.M Go.Proofs.YtnnkedeohfbkeaaW.PrintWords Go.Proofs.YtnnkedeohfbkeaaW.PrintLast Go.Proofs.YtnnkedeohfbkeaaW.PrintMore
namespace Mach
theorem f1_pos {P : List Txt} (ws : List Txt) (hA : Asc P) (hC : Clo P) {j : Nat} (hj : j < P.length) (h0 : 0 < j) : (rd_T65 (trN P ws) (j : Int)).f1 = (placeL P (P.getD j []).dropLast : Int) := by
 rw [rdN P ws j hj]
 show (if P.getD j [] = [] then -1 else (placeL P (P.getD j []).dropLast : Int)) = _
 rw [if_neg (clo_pos hA hC hj h0)]
theorem f0_pos {P : List Txt} (ws : List Txt) (hA : Asc P) (hC : Clo P) (hW : ∀ p ∈ P, wordL p = true) {j : Nat} (hj : j < P.length) (hne : P.getD j [] ≠ []) : (rd_T65 (trN P ws) (j : Int)).f0 = (((P.getD j []).getD ((P.getD j []).length - 1) 0).toNat : Int) - 97 := by
 rw [rdN P ws j hj]
 unfold mkN ndL
 rw [if_neg hne]
 exact (ltrOf_bd (hW _ (getD_mem hj)) hne).1
theorem f2_eq {P : List Txt} (ws : List Txt) {j : Nat} (hj : j < P.length) : (rd_T65 (trN P ws) (j : Int)).f2 = decide (P.getD j [] ∈ ws) := by
 rw [rdN P ws j hj]; rfl
def isKid (P : List Txt) (p : Txt) (j : Nat) : Bool := decide (P.getD j [] ≠ [] ∧ (P.getD j []).dropLast = p)
def kidU (P : List Txt) (p : Txt) (n : Nat) : List Int := ((List.range n).filter (isKid P p)).map fun j : Nat => (j : Int)
theorem kidU_succ (P : List Txt) (p : Txt) (n : Nat) : kidU P p (n + 1) = kidU P p n ++ if isKid P p n = true then [(n : Int)] else [] := by
 unfold kidU
 rw [List.range_succ, List.filter_append, List.map_append]
 congr 1
 by_cases h : isKid P p n = true
 ·
  rw [if_pos h, List.filter_cons, if_pos h]; rfl
 ·
  rw [if_neg h, List.filter_cons, if_neg h]; rfl
theorem kidU_length (P : List Txt) (p : Txt) (n : Nat) : (kidU P p n).length ≤ n := by
 unfold kidU
 rw [List.length_map]
 exact Nat.le_trans (List.length_filter_le _ _) (by simp)
theorem range_getD (P : List Txt) : (List.range P.length).map (fun j => P.getD j []) = P := by
 apply List.ext_getElem?
 intro j
 rw [List.getElem?_map]
 by_cases h : j < P.length
 ·
  rw [List.getElem?_range h, Option.map_some, getD_lt [] h, List.getElem?_eq_getElem h]
 ·
  rw [List.getElem?_eq_none (by simp; omega), List.getElem?_eq_none (by omega)]; rfl
theorem kidU_all {P : List Txt} (hA : Asc P) (p : Txt) : kidU P p P.length = (kidsL P p).map fun q => (placeL P q : Int) := by
 have e : kidsL P p = ((List.range P.length).filter (isKid P p)).map fun j => P.getD j [] := by
  unfold kidsL
  conv => lhs; rw [← range_getD P]
  rw [List.filter_map]
  rfl
 rw [e, List.map_map]
 unfold kidU
 refine List.map_congr_left fun j hj => ?_
 have h1 := List.mem_range.1 (List.mem_filter.1 hj).1
 show (j : Int) = _
 simp only [Function.comp]
 rw [placeL_get hA h1]
def kidW (ws : List Txt) (i : Nat) : List Int := (letsL (behL ws ((preL ws).getD i []))).map fun c => (placeL (preL ws) ((preL ws).getD i [] ++ [c]) : Int)
theorem kidW_eq {ws : List Txt} (h : OkW ws) (i : Nat) : kidU (preL ws) ((preL ws).getD i []) (preL ws).length = kidW ws i := by
 rw [kidU_all (asc_preL ws), kidsL_eq h, List.map_map]
 rfl
theorem kidW_length (ws : List Txt) (i : Nat) : (kidW ws i).length = (letsL (behL ws ((preL ws).getD i []))).length := List.length_map _
theorem resL_get {ws : List Txt} {i : Nat} (hi : i < (preL ws).length) : (resL ws).getD i [] = behL ws ((preL ws).getD i []) := by
 unfold resL
 rw [getD_lt _ (by simpa using hi), getD_lt _ hi, List.getElem_map]
theorem kid_at {ws : List Txt} (h : OkW ws) {i j : Nat} (hi : i < (preL ws).length) (hj : j < (kidW ws i).length) :
  ∃ q : Nat, (kidW ws i).getD j 0 = (q : Int) ∧ q < (preL ws).length ∧ i < q ∧ (letsL ((resL ws).getD i [])).getD j 0 ∈ letsL ((resL ws).getD i []) ∧
   (rd_T65 (trN (preL ws) ws) (q : Int)).f0 = (((letsL ((resL ws).getD i [])).getD j 0).toNat : Int) - 97 ∧ (resL ws).getD q [] = succL ((resL ws).getD i []) ((letsL ((resL ws).getD i [])).getD j 0) := by
 rw [resL_get hi]
 have hl : j < (letsL (behL ws ((preL ws).getD i []))).length := by rw [← kidW_length]; exact hj
 have hm : (letsL (behL ws ((preL ws).getD i []))).getD j 0 ∈ letsL (behL ws ((preL ws).getD i [])) := by rw [getD_lt 0 hl]; exact List.getElem_mem _
 have hp := pre_snoc.2 ((mem_letsL (Res.beh12 h ((preL ws).getD i []))).1 hm)
 obtain ⟨q1, q2⟩ := placeL_mem hp
 refine ⟨_, ?_, q1, ?_, hm, ?_, ?_⟩
 ·
  unfold kidW
  rw [getD_lt 0 (by simpa using hl), List.getElem_map, getD_lt 0 hl]
 ·
  refine asc_get_lt (asc_preL ws) hi q1 ?_
  rw [q2]
  exact txt_lt_snoc _ _
 ·
  rw [f0_pos ws (asc_preL ws) (clo_preL ws) (fun p hp => preL_word h.word hp) q1 (by rw [q2]; simp), q2]
  simp
 ·
  rw [resL_get q1, q2, behL_snoc h.asc]
end Mach
end Go.Proofs.Ytnnkedeohfbkeaa.L
namespace Go.Proofs.Ytnnkedeohfbkeaa.L
open Go.RowKit Go.Proofs.Ytnnkedeohfbkeaa.P Go.Proofs.Ytnnkedeohfbkeaa.M Go.Proofs.YtnnkedeohfbkeaaW.PrintWords Go.Proofs.YtnnkedeohfbkeaaW.PrintLast Go.Proofs.YtnnkedeohfbkeaaW.PrintMore
namespace Mach
def fL (ws : List Txt) (n : Nat) : List (List Txt) := firstL [] ((resL ws).take n)
theorem fL_zero (ws : List Txt) : fL ws 0 = [] := rfl
theorem fL_succ {ws : List Txt} {n : Nat} (h : n < (preL ws).length) : fL ws (n + 1) = if (resL ws).getD n [] ∈ fL ws n then fL ws n else fL ws n ++ [(resL ws).getD n []] := by
 unfold fL
 rw [take_succ_getD [] (by rw [resL_length]; exact h), firstL_snoc]
theorem fL_all (ws : List Txt) : fL ws (preL ws).length = dL ws := by
 unfold fL dL
 rw [List.take_of_length_le (by rw [resL_length]; exact Nat.le_refl _)]
theorem fL_pre (ws : List Txt) : ∀ d n, n + d = (preL ws).length → fL ws n <+: dL ws
 | 0, n, h => by rw [show n = (preL ws).length from by omega, fL_all]; exact List.prefix_refl _
 | d + 1, n, h => by
  refine List.IsPrefix.trans ?_ (fL_pre ws d (n + 1) (by omega))
  rw [fL_succ (by omega)]
  split
  ·
   exact List.prefix_refl _
  ·
   exact List.prefix_append _ _
theorem fL_pre' {ws : List Txt} {n : Nat} (h : n ≤ (preL ws).length) : fL ws n <+: dL ws := fL_pre ws _ n (Nat.add_sub_of_le h)
theorem fL_nodup (ws : List Txt) (n : Nat) : (fL ws n).Nodup := firstL_nodup _ _ List.nodup_nil
theorem fL_length (ws : List Txt) (n : Nat) (h : n ≤ (preL ws).length) : (fL ws n).length ≤ n := by
 have := firstL_length ((resL ws).take n) []
 rw [List.length_take, resL_length] at this
 unfold fL
 simp at this
 omega
theorem fL_mem {ws : List Txt} {n : Nat} (h : n < (preL ws).length) : (resL ws).getD n [] ∈ fL ws (n + 1) := by
 rw [fL_succ h]
 split
 ·
  assumption
 ·
  exact List.mem_append_right _ (List.mem_singleton.2 rfl)
theorem res_mem {ws : List Txt} {n : Nat} (h : n < (preL ws).length) : (resL ws).getD n [] ∈ dL ws := (fL_pre' (by omega)).subset (fL_mem h)
theorem idx_met {ws : List Txt} {n : Nat} (h : n ≤ (preL ws).length) {b : List Txt} (hb : b ∈ fL ws n) : (dL ws).idxOf b = (fL ws n).idxOf b := idx_pre (fL_pre' h) hb
theorem idx_first {ws : List Txt} {n : Nat} (h : n < (preL ws).length) (hn : (resL ws).getD n [] ∉ fL ws n) : (dL ws).idxOf ((resL ws).getD n []) = (fL ws n).length := by
 rw [idx_met (n := n + 1) (by omega) (fL_mem h), fL_succ h, if_neg hn, idx_new hn]
theorem idx_lt {ws : List Txt} {b : List Txt} (h : b ∈ dL ws) : (dL ws).idxOf b < (dL ws).length := List.idxOf_lt_length_of_mem h
theorem idx_old {ws : List Txt} {n : Nat} (h : n ≤ (preL ws).length) {b : List Txt} (hb : b ∈ fL ws n) : (dL ws).idxOf b < (fL ws n).length := by
 rw [idx_met h hb]
 exact List.idxOf_lt_length_of_mem hb
theorem idxOf_getE : ∀ {l : List (List Txt)} {b : List Txt}, b ∈ l → l[l.idxOf b]? = some b
 | [], _, h => by cases h
 | x :: r, b, h => by
  rw [List.idxOf_cons]
  by_cases e : x = b
  ·
   subst e; simp
  ·
   have hr : b ∈ r := by
    rcases List.mem_cons.1 h with k | k
    ·
     exact absurd k.symm e
    ·
     exact k
   rw [show (x == b) = false from beq_eq_false_iff_ne.2 e, cond_false, List.getElem?_cons_succ]
   exact idxOf_getE hr
theorem idxOf_nodup {l : List (List Txt)} (hn : l.Nodup) (j : Nat) (hj : j < l.length) : l.idxOf l[j] = j := by
 have h1 := idxOf_getE (List.getElem_mem hj)
 have h2 : l.idxOf l[j] < l.length := List.idxOf_lt_length_of_mem (List.getElem_mem hj)
 rw [List.getElem?_eq_getElem h2] at h1
 have h3 := Option.some.inj h1
 rcases Nat.lt_trichotomy (l.idxOf l[j]) j with h4 | h4 | h4
 ·
  exact absurd h3 (List.pairwise_iff_getElem.1 hn _ _ h2 hj h4)
 ·
  exact h4
 ·
  exact absurd h3.symm (List.pairwise_iff_getElem.1 hn _ _ hj h2 h4)
theorem idx_get {ws : List Txt} {b : List Txt} (h : b ∈ dL ws) : (dL ws)[(dL ws).idxOf b]? = some b := idxOf_getE h
def mkS (x : Bool × List (Int × Int)) : S77 := ⟨x.1, x.2.map fun y => ⟨y.1, y.2⟩⟩
def stW (ws : List Txt) (b : List Txt) : S77 := mkS (stL (dL ws) b)
def machW (ws : List Txt) : List S77 := (dL ws).map (stW ws)
theorem machW_length (ws : List Txt) : (machW ws).length = (dL ws).length := List.length_map _
def edgeW (ws : List Txt) (b : List Txt) (c : UInt8) : S78 := ⟨(c.toNat : Int) - 97, ((dL ws).idxOf (succL b c) : Int)⟩
theorem stW_eq (ws : List Txt) (b : List Txt) : stW ws b = ⟨decide ([] ∈ b), (letsL b).map (edgeW ws b)⟩ := by
 unfold stW mkS stL
 rw [List.map_map]
 rfl
theorem end_eq {ws : List Txt} {j : Nat} (hj : j < (preL ws).length) : (rd_T65 (trN (preL ws) ws) (j : Int)).f2 = decide ([] ∈ (resL ws).getD j []) := by
 rw [f2_eq ws hj, resL_get hj]
 congr 1
 exact propext (by rw [mem_behL, List.append_nil])
theorem lastR {ws : List Txt} {j : Nat} (hj : j < (preL ws).length) : lastL (resL ws) ((resL ws).getD j []) < (preL ws).length ∧ (resL ws).getD (lastL (resL ws) ((resL ws).getD j [])) [] = (resL ws).getD j [] := by
 have h := lastL_spec (getR_mem (R := resL ws) (i := j) (by rw [resL_length]; exact hj))
 rw [resL_length] at h
 exact ⟨h.1, h.2.1⟩
end Mach
end Go.Proofs.Ytnnkedeohfbkeaa.L
namespace Go.Proofs.Ytnnkedeohfbkeaa.L
open Go.RowKit Go.Proofs.Ytnnkedeohfbkeaa.P Go.Proofs.Ytnnkedeohfbkeaa.M Go.Proofs.YtnnkedeohfbkeaaW.PrintWords Go.Proofs.YtnnkedeohfbkeaaW.PrintLast Go.Proofs.YtnnkedeohfbkeaaW.PrintMore
namespace Mach
def kidsW (ws : List Txt) : List (List Int) := (List.range (preL ws).length).map (kidW ws)
theorem kidsW_length (ws : List Txt) : (kidsW ws).length = (preL ws).length := by simp [kidsW]
theorem kidsW_rd {ws : List Txt} {i : Nat} (hi : i < (preL ws).length) : rd_L7 (kidsW ws) (i : Int) = kidW ws i := by
 unfold rd_L7 kidsW
 rw [Int.toNat_natCast, getD_lt _ (by simpa using hi)]
 simp
def kidsU (P : List Txt) (n : Nat) : List (List Int) := (List.range P.length).map fun j => kidU P (P.getD j []) n
theorem kidsU_length (P : List Txt) (n : Nat) : (kidsU P n).length = P.length := by simp [kidsU]
theorem kidsU_rd {P : List Txt} {n i : Nat} (hi : i < P.length) : rd_L7 (kidsU P n) (i : Int) = kidU P (P.getD i []) n := by
 unfold rd_L7 kidsU
 rw [Int.toNat_natCast, getD_lt _ (by simpa using hi)]
 simp
theorem isKid_par {P : List Txt} (hA : Asc P) (hC : Clo P) {i j : Nat} (hi : i < P.length) (h0 : 0 < i) (hj : j < P.length) : isKid P (P.getD j []) i = decide (j = placeL P (P.getD i []).dropLast) := by
 obtain ⟨h1, h2⟩ := clo_parent hA hC hi h0
 unfold isKid
 congr 1
 refine propext ⟨fun h => ?_, fun h => ⟨clo_pos hA hC hi h0, by rw [h, h2]⟩⟩
 rw [h.2, placeL_get hA hj]
theorem kidsU_set {P : List Txt} (hA : Asc P) (hC : Clo P) {i : Nat} (hi : i < P.length) (h0 : 0 < i) : (kidsU P i).set (placeL P (P.getD i []).dropLast) (kidU P (P.getD (placeL P (P.getD i []).dropLast) []) i ++ [(i : Int)]) = kidsU P (i + 1) := by
 obtain ⟨h1, h2⟩ := clo_parent hA hC hi h0
 apply List.ext_getElem?
 intro j
 by_cases hj : j < P.length
 ·
  unfold kidsU
  rw [List.getElem?_set, List.getElem?_map, List.getElem?_map, List.getElem?_range hj, Option.map_some, Option.map_some, kidU_succ, isKid_par hA hC hi h0 hj]
  by_cases e : placeL P (P.getD i []).dropLast = j
  ·
   rw [if_pos e, if_pos (by rw [List.length_map, List.length_range]; omega), if_pos (decide_eq_true e.symm), e]
  ·
   rw [if_neg e, if_neg (by rw [decide_eq_true_eq]; exact fun k => e k.symm), List.append_nil]
 ·
  rw [List.getElem?_eq_none (by rw [List.length_set, kidsU_length]; omega), List.getElem?_eq_none (by rw [kidsU_length]; omega)]
theorem l7Kids_ev {ws : List Txt} (h : OkW ws) : Ev (fun k => spec_l7Kids.f k (trN (preL ws) ws)) (kidsW ws) := by
 have hA := asc_preL ws
 have hC := clo_preL ws
 have hP := h.pre
 obtain ⟨z1, z2⟩ := clo_zero hA hC
 have fin : kidsU (preL ws) (preL ws).length = kidsW ws := by
  unfold kidsU kidsW
  exact List.map_congr_left fun j hj => kidW_eq h j
 have loop : ∀ d n, n + d = (preL ws).length → 0 < n → Ev (fun k => spec_l7Kids.l0 k (kidsU (preL ws) n) (n : Int) (trN (preL ws) ws)) (kidsW ws) := by
  intro d
  induction d with
  | zero =>
   intro n h1 h2
   rw [show n = (preL ws).length from by omega, fin]
   exact Ev.step (fun k => spec_l7Kids.l0.eq_2 ..) (Ev.ifF (by rw [trN_length]; omega) (Ev.now _))
  | succ d ih =>
   intro n h1 h2
   have hn : n < (preL ws).length := by omega
   obtain ⟨p1, p2⟩ := clo_parent hA hC hn h2
   have hl := kidU_length (preL ws) ((preL ws).getD (placeL (preL ws) ((preL ws).getD n []).dropLast) []) n
   refine Ev.step (fun k => spec_l7Kids.l0.eq_2 ..) (Ev.ifT (by rw [trN_length]; omega) (Ev.ifT (by omega) ?_))
   rw [f1_pos ws hA hC hn h2, kidsU_rd (by omega)]
   refine Ev.ifT (by omega) (Ev.ifT (by rw [kidsU_length]; omega) (Ev.ifT (by omega) ?_))
   rw [Int.toNat_natCast, kidsU_set hA hC hn h2, wrap64_succ n (by omega)]
   exact ih (n + 1) (by omega) (by omega)
 unfold spec_l7Kids.f
 refine Ev.ifT (by omega) (Ev.ifT (by rw [trN_length]; omega) ?_)
 have hr : List.replicate (((trN (preL ws) ws).length : Int)).toNat ([] : List Int) = kidsU (preL ws) 1 := by
  rw [Int.toNat_natCast, trN_length]
  apply List.ext_getElem?
  intro j
  by_cases hj : j < (preL ws).length
  ·
   unfold kidsU
   rw [List.getElem?_replicate, if_pos hj, List.getElem?_map, List.getElem?_range hj, Option.map_some]
   have : kidU (preL ws) ((preL ws).getD j []) 1 = [] := by
    rw [kidU_succ, show kidU (preL ws) ((preL ws).getD j []) 0 = [] from rfl, if_neg, List.nil_append]
    unfold isKid
    rw [z2]
    simp
   rw [this]
  ·
   rw [List.getElem?_eq_none (by simp; omega), List.getElem?_eq_none (by rw [kidsU_length]; omega)]
 rw [hr]
 exact loop ((preL ws).length - 1) 1 (by omega) (by omega)
theorem l7Alike_ev {ws : List Txt} (h : OkW ws) {i k : Nat} (hik : i < k) (hk : k < (preL ws).length) (E : List Int) (hE : E.length = (preL ws).length)
  (hv : ∀ j, i < j → j < (preL ws).length → E.getD j 0 = (lastL (resL ws) ((resL ws).getD j []) : Int)) :
  Ev (fun f => spec_l7Alike.f f (trN (preL ws) ws) (kidsW ws) E (i : Int) (k : Int)) (decide ((resL ws).getD i [] = (resL ws).getD k [])) := by
 have hi : i < (preL ws).length := by omega
 have hP := h.pre
 have Ri : Res 12 ((resL ws).getD i []) := by rw [resL_get hi]; exact Res.beh12 h _
 have Rk : Res 12 ((resL ws).getD k []) := by rw [resL_get hk]; exact Res.beh12 h _
 have hend : ∀ {j}, j < (preL ws).length → (rd_T65 (trN (preL ws) ws) (j : Int)).f2 = decide ([] ∈ (resL ws).getD j []) := fun {j} hj => by
  rw [f2_eq ws hj, resL_get hj]
  congr 1
  exact propext (by rw [mem_behL, List.append_nil])
 have stop : ∀ b : Bool, b = true → Ev (fun f => spec_l7Alike.j0 f (kidsW ws) E (i : Int) (k : Int) b (trN (preL ws) ws)) false := fun b hb => Ev.step (fun f => spec_l7Alike.j0.eq_2 ..) (Ev.ifT hb (Ev.now _))
 have hres : ∀ {n m}, n < (preL ws).length → m < (preL ws).length → ((lastL (resL ws) ((resL ws).getD n []) : Int) = (lastL (resL ws) ((resL ws).getD m []) : Int) ↔ (resL ws).getD n [] = (resL ws).getD m []) := fun {n m} hn hm => by
  rw [← lastL_inj (R := resL ws) (by rw [resL_length]; exact hn) (by rw [resL_length]; exact hm)]
  omega
 unfold spec_l7Alike.f
 refine Ev.ifT (by omega) (Ev.ifT (by rw [trN_length]; omega) (Ev.ifT (by omega) (Ev.ifT (by rw [trN_length]; omega) ?_)))
 rw [hend hi, hend hk, kidsW_rd hi, kidsW_rd hk]
 by_cases h0 : decide ([] ∈ (resL ws).getD i []) = decide ([] ∈ (resL ws).getD k [])
 ·
  refine Ev.ifF (by rw [h0]; simp) (Ev.ifT (by rw [kidsW_length]; omega) (Ev.ifT (by rw [kidsW_length]; omega) ?_))
  have hli : (kidW ws i).length = (letsL ((resL ws).getD i [])).length := by rw [kidW_length, resL_get hi]
  have hlk : (kidW ws k).length = (letsL ((resL ws).getD k [])).length := by rw [kidW_length, resL_get hk]
  have l26 := letsL_length ((resL ws).getD i [])
  by_cases h1 : (kidW ws i).length = (kidW ws k).length
  ·
   refine Ev.step (fun f => spec_l7Alike.j0.eq_2 ..) (Ev.ifF (by simp; omega) ?_)
   have loop : ∀ d n, n + d = (kidW ws i).length → (∀ m, m < n → (letsL ((resL ws).getD i [])).getD m 0 = (letsL ((resL ws).getD k [])).getD m 0 ∧ succL ((resL ws).getD i []) ((letsL ((resL ws).getD i [])).getD m 0) = succL ((resL ws).getD k []) ((letsL ((resL ws).getD k [])).getD m 0)) →
     Ev (fun f => spec_l7Alike.l0 f (kidsW ws) E (i : Int) (k : Int) (n : Int) (trN (preL ws) ws)) (decide ((resL ws).getD i [] = (resL ws).getD k [])) := by
    intro d
    induction d with
    | zero =>
     intro n hn hm
     have hle : letsL ((resL ws).getD i []) = letsL ((resL ws).getD k []) := by
      apply List.ext_getElem
      ·
       rw [← hli, ← hlk, h1]
      ·
       intro j h2 h3
       have := (hm j (by omega)).1
       rwa [getD_lt 0 h2, getD_lt 0 h3] at this
     have heq : (resL ws).getD i [] = (resL ws).getD k [] := res_eq Ri Rk h0 hle fun c hc => by
      obtain ⟨j, hj, rfl⟩ := List.getElem_of_mem hc
      have h2 := hm j (by omega)
      rw [← h2.1, getD_lt 0 hj] at h2
      exact h2.2
     rw [decide_eq_true heq]
     refine Ev.step (fun f => spec_l7Alike.l0.eq_2 ..) (Ev.ifT (by omega) (Ev.ifT (by rw [kidsW_length]; omega) ?_))
     rw [kidsW_rd hi]
     exact Ev.ifF (by omega) (Ev.now _)
    | succ d ih =>
     intro n hn hm
     have n1 : n < (kidW ws i).length := by omega
     have n2 : n < (kidW ws k).length := by omega
     obtain ⟨q, q1, q2, q3, q4, q5, q6⟩ := kid_at h hi n1
     obtain ⟨t, t1, t2, t3, t4, t5, t6⟩ := kid_at h hk n2
     have no : ¬ ((letsL ((resL ws).getD i [])).getD n 0 = (letsL ((resL ws).getD k [])).getD n 0 ∧ succL ((resL ws).getD i []) ((letsL ((resL ws).getD i [])).getD n 0) = succL ((resL ws).getD k []) ((letsL ((resL ws).getD k [])).getD n 0)) → decide ((resL ws).getD i [] = (resL ws).getD k []) = false := fun hn => decide_eq_false fun e => hn (by rw [e]; exact ⟨rfl, rfl⟩)
     refine Ev.step (fun f => spec_l7Alike.l0.eq_2 ..) (Ev.ifT (by omega) (Ev.ifT (by rw [kidsW_length]; omega) ?_))
     rw [kidsW_rd hi]
     refine Ev.ifT (by omega) (Ev.ifT (by omega) (Ev.ifT (by omega) (Ev.ifT (by rw [kidsW_length]; omega) ?_)))
     rw [kidsW_rd hk]
     refine Ev.ifT (by omega) ?_
     rw [rd_nat, rd_nat, q1, t1]
     refine Ev.ifT (by omega) (Ev.ifT (by rw [trN_length]; omega) (Ev.ifT (by omega) (Ev.ifT (by rw [trN_length]; omega) ?_)))
     rw [q5, t5]
     by_cases h2 : (letsL ((resL ws).getD i [])).getD n 0 = (letsL ((resL ws).getD k [])).getD n 0
     ·
      refine Ev.ifT (by rw [h2]) (Ev.ifT (by omega) (Ev.ifT (by omega) ?_))
      rw [rd_nat, rd_nat, hv q (by omega) q2, hv t (by omega) t2]
      by_cases h3 : (resL ws).getD q [] = (resL ws).getD t []
      ·
       refine Ev.ifT ((hres q2 t2).2 h3) ?_
       rw [wrap64_succ n (by omega)]
       refine ih (n + 1) (by omega) fun m hm' => ?_
       rcases Nat.lt_or_ge m n with h4 | h4
       ·
        exact hm m h4
       ·
        obtain rfl : m = n := by omega
        rw [q6, t6] at h3
        exact ⟨h2, h3⟩
      ·
       rw [no fun e => h3 (by rw [q6, t6]; exact e.2)]
       exact Ev.ifF (fun e => h3 ((hres q2 t2).1 e)) (Ev.now _)
     ·
      rw [no fun e => h2 e.1]
      refine Ev.ifF (fun e => h2 (UInt8.toNat_inj.1 (by omega))) (Ev.now _)
   exact loop (kidW ws i).length 0 (by omega) (fun m hm => absurd hm (Nat.not_lt_zero m))
  ·
   rw [decide_eq_false (fun e => h1 (by rw [hli, hlk, e]))]
   refine stop _ ?_
   rw [bne_iff_ne]
   omega
 ·
  rw [show decide ((resL ws).getD i [] = (resL ws).getD k []) = false from decide_eq_false fun e => h0 (by rw [e])]
  exact Ev.ifT (bne_iff_ne.2 h0) (stop _ rfl)
def endsF (ws : List Txt) : List Int := (List.range (preL ws).length).map fun i => (lastL (resL ws) ((resL ws).getD i []) : Int)
theorem endsF_length (ws : List Txt) : (endsF ws).length = (preL ws).length := by simp [endsF]
theorem endsF_get {ws : List Txt} {i : Nat} (hi : i < (preL ws).length) : (endsF ws).getD i 0 = (lastL (resL ws) ((resL ws).getD i []) : Int) := by
 unfold endsF
 rw [getD_lt 0 (by simpa using hi)]
 simp
def endsP (ws : List Txt) (n : Nat) : List Int := List.replicate n 0 ++ (endsF ws).drop n
theorem endsP_length {ws : List Txt} {n : Nat} (hn : n ≤ (preL ws).length) : (endsP ws n).length = (preL ws).length := by
 unfold endsP
 rw [List.length_append, List.length_replicate, List.length_drop, endsF_length]
 omega
theorem endsP_get {ws : List Txt} {n j : Nat} (hn : n ≤ j) (hj : j < (preL ws).length) : (endsP ws n).getD j 0 = (lastL (resL ws) ((resL ws).getD j []) : Int) := by
 rw [← endsF_get hj]
 unfold endsP
 rw [List.getD_eq_getElem?_getD, List.getD_eq_getElem?_getD, List.getElem?_append_right (by simpa using hn), List.length_replicate, List.getElem?_drop, show n + (j - n) = j from by omega]
theorem endsP_set {ws : List Txt} {n : Nat} (hn : n < (preL ws).length) (a b : Int) (hb : b = (lastL (resL ws) ((resL ws).getD n []) : Int)) : ((endsP ws (n + 1)).set n a).set n b = endsP ws n := by
 rw [List.set_set]
 have hl := endsF_length ws
 unfold endsP
 rw [List.replicate_succ', List.append_assoc, List.set_append_right _ _ (by simp), List.length_replicate, Nat.sub_self, List.singleton_append, List.set_cons_zero, List.drop_eq_getElem_cons (show n < (endsF ws).length by omega)]
 congr 2
 rw [hb, ← endsF_get hn, getD_lt 0 (by omega)]
theorem l7Ends_ev {ws : List Txt} (h : OkW ws) : Ev (fun k => spec_l7Ends.f k (trN (preL ws) ws)) (endsF ws) := by
 have hP := h.pre
 have hRl := resL_length ws
 have one : ∀ n, n < (preL ws).length → ∀ r, Ev (fun k => spec_l7Ends.l0 k (kidsW ws) (endsP ws n) (wrap64 ((n : Int) - 1)) (trN (preL ws) ws)) r →
   ∀ d m, m = n + d → m < (preL ws).length → lastL (resL ws) ((resL ws).getD n []) ≤ m → Ev (fun k => spec_l7Ends.l1 k (kidsW ws) ((endsP ws (n + 1)).set n (n : Int)) (n : Int) (m : Int) (trN (preL ws) ws)) r := by
  intro n hn r hr d
  have hge := lastL_ge (R := resL ws) (i := n) (by omega)
  have hlen : ((endsP ws (n + 1)).set n (n : Int)).length = (preL ws).length := by rw [List.length_set, endsP_length (by omega)]
  have hget : ∀ j, n < j → j < (preL ws).length → ((endsP ws (n + 1)).set n (n : Int)).getD j 0 = (lastL (resL ws) ((resL ws).getD j []) : Int) := fun j h1 h2 => by
   rw [List.getD_eq_getElem?_getD, List.getElem?_set_ne (by omega), ← List.getD_eq_getElem?_getD, endsP_get (by omega) h2]
  induction d with
  | zero =>
   intro m hm hml hl
   refine Ev.step (fun k => spec_l7Ends.l1.eq_2 ..) (Ev.ifF (by omega) ?_)
   have : (endsP ws (n + 1)).set n (n : Int) = endsP ws n := by
    have := endsP_set hn (n : Int) (n : Int) (by omega)
    rwa [List.set_set] at this
   rw [this]
   exact hr
  | succ d ih =>
   intro m hm hml hl
   refine Ev.step (fun k => spec_l7Ends.l1.eq_2 ..) (Ev.ifT (by omega) (Ev.ifT (by omega) (Ev.ifT (by rw [hlen]; omega) ?_)))
   rw [rd_nat, hget m (by omega) hml]
   have next : lastL (resL ws) ((resL ws).getD n []) ≠ m → Ev (fun k => spec_l7Ends.l1 k (kidsW ws) ((endsP ws (n + 1)).set n (n : Int)) (n : Int) (wrap64 ((m : Int) - 1)) (trN (preL ws) ws)) r := fun hne => by
    have e : wrap64 ((m : Int) - 1) = ((m - 1 : Nat) : Int) := by rw [wrap64_id (by omega) (by omega)]; omega
    rw [e]
    exact ih (m - 1) (by omega) (by omega) (by omega)
   by_cases h1 : lastL (resL ws) ((resL ws).getD m []) = m
   ·
    refine Ev.ifT (by omega) ?_
    have ha := l7Alike_ev h (show n < m by omega) hml _ hlen hget
    by_cases h2 : (resL ws).getD n [] = (resL ws).getD m []
    ·
     rw [decide_eq_true h2] at ha
     refine Ev.bind ha (Ev.ifT rfl (Ev.ifT (by omega) (Ev.ifT (by rw [hlen]; omega) ?_)))
     rw [Int.toNat_natCast, endsP_set hn _ _ (by rw [h2, h1])]
     exact hr
    ·
     rw [decide_eq_false h2] at ha
     refine Ev.bind ha (Ev.ifF Bool.false_ne_true (next fun e => h2 ?_))
     have := (lastL_spec (getR_mem (R := resL ws) (i := n) (by omega))).2.1
     rw [e] at this
     exact this.symm
   ·
    refine Ev.ifF (by omega) (next fun e => h1 ?_)
    have := (lastL_spec (getR_mem (R := resL ws) (i := n) (by omega))).2.1
    rw [e] at this
    rw [this, e]
 have loop : ∀ n, n ≤ (preL ws).length → Ev (fun k => spec_l7Ends.l0 k (kidsW ws) (endsP ws n) (wrap64 ((n : Int) - 1)) (trN (preL ws) ws)) (endsF ws) := by
  intro n
  induction n with
  | zero =>
   intro _
   refine Ev.step (fun k => spec_l7Ends.l0.eq_2 ..) (Ev.ifF (by rw [wrap64_id (by omega) (by omega)]; omega) ?_)
   unfold endsP
   rw [List.replicate_zero, List.nil_append, List.drop_zero]
   exact Ev.now _
  | succ n ih =>
   intro hn
   have e : wrap64 (((n + 1 : Nat) : Int) - 1) = (n : Int) := by rw [wrap64_id (by omega) (by omega)]; omega
   have e2 : wrap64 ((((endsP ws (n + 1)).set n (n : Int)).length : Int) - 1) = (((preL ws).length - 1 : Nat) : Int) := by
    rw [List.length_set, endsP_length hn, wrap64_id (by omega) (by omega)]; omega
   rw [e]
   refine Ev.step (fun k => spec_l7Ends.l0.eq_2 ..) (Ev.ifT (by omega) (Ev.ifT (by omega) (Ev.ifT (by rw [endsP_length hn]; omega) ?_)))
   have e3 : wrap64 (((endsP ws (n + 1)).length : Int) - 1) = (((preL ws).length - 1 : Nat) : Int) := by
    rw [endsP_length hn, wrap64_id (by omega) (by omega)]; omega
   rw [Int.toNat_natCast, e3]
   have hlt := (lastL_spec (getR_mem (R := resL ws) (i := n) (by omega))).1
   exact one n (by omega) _ (ih (by omega)) ((preL ws).length - 1 - n) _ (by omega) (by omega) (by omega)
 unfold spec_l7Ends.f
 refine Ev.bind (l7Kids_ev h) (Ev.ifT (by omega) (Ev.ifT (by rw [trN_length]; omega) (Ev.some_bind ?_)))
 have hr : (List.replicate (((trN (preL ws) ws).length : Int)).toNat 0 : List Int) = endsP ws (preL ws).length := by
  rw [Int.toNat_natCast, trN_length]
  unfold endsP
  rw [List.drop_of_length_le (by rw [endsF_length]; omega), List.append_nil]
 rw [hr, endsP_length (Nat.le_refl _)]
 exact loop _ (Nat.le_refl _)
end Mach
end Go.Proofs.Ytnnkedeohfbkeaa.L
namespace Go.Proofs.Ytnnkedeohfbkeaa.L
open Go.RowKit Go.Proofs.Ytnnkedeohfbkeaa.P Go.Proofs.Ytnnkedeohfbkeaa.M Go.Proofs.YtnnkedeohfbkeaaW.PrintWords Go.Proofs.YtnnkedeohfbkeaaW.PrintLast Go.Proofs.YtnnkedeohfbkeaaW.PrintMore
namespace Mach
def placeP (ws : List Txt) (n : Nat) : List Int := (List.range (preL ws).length).map fun g => if (resL ws).getD g [] ∈ fL ws n ∧ lastL (resL ws) ((resL ws).getD g []) = g then ((fL ws n).idxOf ((resL ws).getD g []) : Int) else -1
theorem placeP_length (ws : List Txt) (n : Nat) : (placeP ws n).length = (preL ws).length := by simp [placeP]
theorem placeP_get {ws : List Txt} {n g : Nat} (hg : g < (preL ws).length) : (placeP ws n).getD g 0 = if (resL ws).getD g [] ∈ fL ws n ∧ lastL (resL ws) ((resL ws).getD g []) = g then ((fL ws n).idxOf ((resL ws).getD g []) : Int) else -1 := by
 unfold placeP
 rw [getD_lt 0 (by simpa using hg)]
 simp
theorem placeP_last {ws : List Txt} {n i : Nat} (hi : i < (preL ws).length) : rd (placeP ws n) (lastL (resL ws) ((resL ws).getD i []) : Int) = if (resL ws).getD i [] ∈ fL ws n then ((fL ws n).idxOf ((resL ws).getD i []) : Int) else -1 := by
 obtain ⟨h1, h2⟩ := lastR hi
 rw [rd_nat, placeP_get h1, h2]
 by_cases h : (resL ws).getD i [] ∈ fL ws n
 ·
  rw [if_pos ⟨h, rfl⟩, if_pos h]
 ·
  rw [if_neg (fun k => h k.1), if_neg h]
theorem placeP_set {ws : List Txt} {i : Nat} (hi : i < (preL ws).length) (hn : (resL ws).getD i [] ∉ fL ws i) : (placeP ws i).set (lastL (resL ws) ((resL ws).getD i [])) ((fL ws i).length : Int) = placeP ws (i + 1) := by
 obtain ⟨h1, h2⟩ := lastR hi
 have hF : fL ws (i + 1) = fL ws i ++ [(resL ws).getD i []] := by rw [fL_succ hi, if_neg hn]
 apply List.ext_getElem
 ·
  rw [List.length_set, placeP_length, placeP_length]
 ·
  intro g g1 g2
  have hg : g < (preL ws).length := by rw [placeP_length] at g2; exact g2
  rw [List.getElem_set, ← getD_lt 0 g2, placeP_get hg]
  by_cases e : lastL (resL ws) ((resL ws).getD i []) = g
  ·
   subst e
   rw [if_pos rfl, h2, if_pos ⟨fL_mem hi, rfl⟩, hF, idx_new hn]
  ·
   rw [if_neg e, ← getD_lt 0 (by rw [placeP_length]; exact hg), placeP_get hg]
   by_cases hl : lastL (resL ws) ((resL ws).getD g []) = g
   ·
    have hne : (resL ws).getD g [] ≠ (resL ws).getD i [] := fun k => e (by rw [← k, hl])
    by_cases hm : (resL ws).getD g [] ∈ fL ws i
    ·
     rw [if_pos ⟨hm, hl⟩, if_pos ⟨by rw [hF]; exact List.mem_append_left _ hm, hl⟩, hF, idx_pre (List.prefix_append _ _) hm]
    ·
     rw [if_neg (fun k => hm k.1), if_neg (fun k => by
      rw [hF, List.mem_append, List.mem_singleton] at k
      rcases k.1 with k | k
      ·
       exact hm k
      ·
       exact hne k)]
   ·
    rw [if_neg (fun k => hl k.2), if_neg (fun k => hl k.2)]
theorem l7Machine_ev {ws : List Txt} (h : OkW ws) : Ev (fun k => spec_l7Machine.f k (trN (preL ws) ws)) (machW ws) := by
 have hP := h.pre
 have eget : ∀ {i}, i < (preL ws).length → rd (endsF ws) (i : Int) = (lastL (resL ws) ((resL ws).getD i []) : Int) := fun {i} hi => by rw [rd_nat, endsF_get hi]
 have edges : ∀ i, i < (preL ws).length → ∀ acc r, Ev (fun k => spec_l7Machine.l2 k (kidsW ws) (endsF ws) (placeP ws (preL ws).length) (wrap64 ((i : Int) + 1)) (trN (preL ws) ws) (acc ++ [stW ws ((resL ws).getD i [])])) r → acc.length ≤ 1000 →
   ∀ d j, j + d = (kidW ws i).length → Ev (fun k => spec_l7Machine.l3 k (kidsW ws) (endsF ws) (placeP ws (preL ws).length) (i : Int) (j : Int) (trN (preL ws) ws) acc (decide ([] ∈ (resL ws).getD i [])) (((letsL ((resL ws).getD i [])).take j).map (edgeW ws ((resL ws).getD i [])))) r := by
  intro i hi acc r hr hacc d
  have hkl : (kidW ws i).length = (letsL ((resL ws).getD i [])).length := by rw [kidW_length, resL_get hi]
  have l26 := letsL_length ((resL ws).getD i [])
  induction d with
  | zero =>
   intro j hj
   refine Ev.step (fun k => spec_l7Machine.l3.eq_2 ..) (Ev.ifT (by omega) (Ev.ifT (by rw [kidsW_length]; omega) ?_))
   rw [kidsW_rd hi, List.take_of_length_le (by omega), ← stW_eq]
   exact Ev.ifF (by omega) (Ev.ifT (by omega) hr)
  | succ d ih =>
   intro j hj
   have hjk : j < (kidW ws i).length := by omega
   obtain ⟨q, q1, q2, q3, q4, q5, q6⟩ := kid_at h hi hjk
   have hq := lastR q2
   refine Ev.step (fun k => spec_l7Machine.l3.eq_2 ..) (Ev.ifT (by omega) (Ev.ifT (by rw [kidsW_length]; omega) ?_))
   rw [kidsW_rd hi, rd_nat (kidW ws i), q1, eget q2, placeP_last q2, fL_all, if_pos (res_mem q2), q5, q6]
   refine Ev.ifT (by omega) (Ev.ifT (by omega) (Ev.ifT (by omega) (Ev.ifT (by rw [trN_length]; omega) (Ev.ifT (by rw [endsF_length]; omega) (Ev.ifT (by omega) (Ev.ifT (by rw [placeP_length, ← q6]; omega) (Ev.ifT (by rw [List.length_map, List.length_take]; omega) ?_)))))))
   have e : ((letsL ((resL ws).getD i [])).take j).map (edgeW ws ((resL ws).getD i [])) ++ [(⟨(((letsL ((resL ws).getD i [])).getD j 0).toNat : Int) - 97, ((dL ws).idxOf (succL ((resL ws).getD i []) ((letsL ((resL ws).getD i [])).getD j 0)) : Int)⟩ : S78)] = ((letsL ((resL ws).getD i [])).take (j + 1)).map (edgeW ws ((resL ws).getD i [])) := by
    rw [take_succ_getD 0 (by omega), List.map_append]
    rfl
   rw [e, wrap64_succ j (by omega)]
   exact ih (j + 1) (by omega)
 have states : ∀ d i, i + d = (preL ws).length → Ev (fun k => spec_l7Machine.l2 k (kidsW ws) (endsF ws) (placeP ws (preL ws).length) (i : Int) (trN (preL ws) ws) ((fL ws i).map (stW ws))) (machW ws) := by
  intro d
  induction d with
  | zero =>
   intro i hi
   rw [show i = (preL ws).length from by omega, fL_all]
   exact Ev.step (fun k => spec_l7Machine.l2.eq_2 ..) (Ev.ifF (by rw [endsF_length]; omega) (Ev.now _))
  | succ d ih =>
   intro i hd
   have hi : i < (preL ws).length := by omega
   have hl := lastR hi
   have hfl := fL_length ws i (by omega)
   refine Ev.step (fun k => spec_l7Machine.l2.eq_2 ..) (Ev.ifT (by rw [endsF_length]; omega) (Ev.ifT (by omega) ?_))
   rw [eget hi]
   refine Ev.ifT (by omega) (Ev.ifT (by rw [placeP_length]; omega) ?_)
   rw [placeP_last hi, fL_all, if_pos (res_mem hi), List.length_map]
   have hih := ih (i + 1) (by omega)
   by_cases hn : (resL ws).getD i [] ∈ fL ws i
   ·
    refine Ev.ifF (by have := idx_old (ws := ws) (n := i) (by omega) hn; omega) ?_
    rw [wrap64_succ i (by omega)]
    rw [fL_succ hi, if_pos hn] at hih
    exact hih
   ·
    refine Ev.ifT (by rw [idx_first hi hn]) (Ev.ifT (by rw [trN_length]; omega) ?_)
    rw [end_eq hi]
    rw [fL_succ hi, if_neg hn, List.map_append] at hih
    have := edges i hi ((fL ws i).map (stW ws)) (machW ws) (by rw [wrap64_succ i (by omega)]; exact hih) (by rw [List.length_map]; omega) (kidW ws i).length 0 (by omega)
    exact this
 have nums : ∀ d i, i + d = (preL ws).length → Ev (fun k => spec_l7Machine.l1 k (kidsW ws) (endsF ws) (placeP ws i) ((fL ws i).length : Int) (i : Int) (trN (preL ws) ws)) (machW ws) := by
  intro d
  induction d with
  | zero =>
   intro i hi
   rw [show i = (preL ws).length from by omega]
   exact Ev.step (fun k => spec_l7Machine.l1.eq_2 ..) (Ev.ifF (by rw [endsF_length]; omega) (states (preL ws).length 0 (by omega)))
  | succ d ih =>
   intro i hd
   have hi : i < (preL ws).length := by omega
   have hl := lastR hi
   have hfl := fL_length ws i (by omega)
   refine Ev.step (fun k => spec_l7Machine.l1.eq_2 ..) (Ev.ifT (by rw [endsF_length]; omega) (Ev.ifT (by omega) ?_))
   rw [eget hi]
   refine Ev.ifT (by omega) (Ev.ifT (by rw [placeP_length]; omega) ?_)
   rw [placeP_last hi]
   have hih := ih (i + 1) (by omega)
   by_cases hn : (resL ws).getD i [] ∈ fL ws i
   ·
    rw [if_pos hn, wrap64_succ i (by omega)]
    refine Ev.ifF (by omega) ?_
    have e : placeP ws (i + 1) = placeP ws i := by
     unfold placeP
     rw [fL_succ hi, if_pos hn]
    rw [e, fL_succ hi, if_pos hn] at hih
    exact hih
   ·
    rw [if_neg hn, wrap64_succ i (by omega)]
    refine Ev.ifT (by omega) ?_
    rw [Int.toNat_natCast, placeP_set hi hn, wrap64_succ _ (by omega)]
    rw [show (fL ws (i + 1)).length = (fL ws i).length + 1 from by rw [fL_succ hi, if_neg hn, List.length_append]; rfl] at hih
    exact hih
 have fills : ∀ d i, i + d = (preL ws).length → Ev (fun k => spec_l7Machine.l0 k (kidsW ws) (endsF ws) (List.replicate i (-1) ++ List.replicate d 0) 0 (i : Int) (trN (preL ws) ws)) (machW ws) := by
  intro d
  induction d with
  | zero =>
   intro i hi
   have e : List.replicate i (-1 : Int) ++ List.replicate 0 0 = placeP ws 0 := by
    rw [List.replicate_zero, List.append_nil]
    unfold placeP
    rw [fL_zero]
    apply List.ext_getElem
    ·
     simp; omega
    ·
     intro g g1 g2; simp
   rw [e]
   exact Ev.step (fun k => spec_l7Machine.l0.eq_2 ..) (Ev.ifF (by rw [endsF_length]; omega) (nums (preL ws).length 0 (by omega)))
  | succ d ih =>
   intro i hd
   refine Ev.step (fun k => spec_l7Machine.l0.eq_2 ..) (Ev.ifT (by rw [endsF_length]; omega) (Ev.ifT (by omega) (Ev.ifT (by simp; omega) ?_)))
   have e : (List.replicate i (-1 : Int) ++ List.replicate (d + 1) 0).set i (-1) = List.replicate (i + 1) (-1) ++ List.replicate d 0 := by
    rw [List.set_append_right _ _ (by simp), List.length_replicate, Nat.sub_self, List.replicate_succ, List.set_cons_zero, List.replicate_succ', List.append_assoc]
    rfl
   rw [Int.toNat_natCast, e, wrap64_succ i (by omega)]
   exact ih (i + 1) (by omega)
 unfold spec_l7Machine.f
 refine Ev.bind (l7Kids_ev h) (Ev.bind (l7Ends_ev h) (Ev.ifT (by omega) (Ev.ifT (by rw [endsF_length]; omega) ?_)))
 rw [Int.toNat_natCast, endsF_length]
 have := fills (preL ws).length 0 (by omega)
 rw [List.replicate_zero, List.nil_append] at this
 exact this
end Mach
end Go.Proofs.Ytnnkedeohfbkeaa.L
namespace Go.Proofs.Ytnnkedeohfbkeaa.L
open Go.RowKit Go.Proofs.Ytnnkedeohfbkeaa.P Go.Proofs.Ytnnkedeohfbkeaa.M Go.Proofs.YtnnkedeohfbkeaaW.PrintWords Go.Proofs.YtnnkedeohfbkeaaW.PrintLast Go.Proofs.YtnnkedeohfbkeaaW.PrintMore
theorem filt_cons_of {α : Type} {f : α → Option Bool} {x : α} {r ys : List α} {b : Bool} (h1 : f x = some b) (h2 : filt f r = some ys) : filt f (x :: r) = some (if b = true then x :: ys else ys) := by
 obtain ⟨q, hq, rfl⟩ := filt_some h2
 rw [filt_of (fun y => (f y).getD false) (fun y hy => by
  rcases List.mem_cons.1 hy with rfl | hy
  ·
   rw [h1]; rfl
  ·
   rw [hq y hy]; rfl), List.filter_cons]
 have e : (r.filter fun y => (f y).getD false) = r.filter q := List.filter_congr fun y hy => by rw [hq y hy]; rfl
 rw [e, h1]
 cases b <;> rfl
theorem filtB_ev (f : Nat → ByteArray → Option Bool) : ∀ (ws : List Txt) (q : Txt → Bool), (∀ w ∈ ws, Ev (fun k => f k (B w)) (q w)) → Ev (fun k => filt (f k) (ws.map B)) ((ws.filter q).map B)
 | [], q, _ => Ev.now _
 | w :: r, q, h => by
  obtain ⟨K1, h1⟩ := h w (by simp)
  obtain ⟨K2, h2⟩ := filtB_ev f r q fun x hx => h x (List.mem_cons_of_mem _ hx)
  refine ⟨max K1 K2, fun k hk => ?_⟩
  have a1 := h1 k (by omega)
  have a2 := h2 k (by omega)
  show filt (f k) (B w :: r.map B) = _
  rw [filt_cons_of a1 a2, List.filter_cons]
  cases q w <;> rfl
theorem HasPrefix_eq (s p : List UInt8) (hs : s.length ≤ 4611686018427387900) (hp : p.length ≤ 4611686018427387900) : strings_HasPrefix.f (B s) (B p) = some (hasPre s p) := by
 unfold strings_HasPrefix.f stringslite_HasPrefix.f hasPre
 by_cases h : p.length ≤ s.length
 ·
  rw [if_pos (by simp; omega), if_pos (by omega), if_pos (by simp; omega)]; simp
 ·
  rw [if_neg (by simp; omega)]
  have : (s.take p.length == p) = false := by
   simp only [beq_eq_false_iff_ne]
   intro e
   have := congrArg List.length e
   simp at this; omega
  simp [this]
end Go.Proofs.Ytnnkedeohfbkeaa.L
namespace Go.Proofs.Ytnnkedeohfbkeaa.L
open Go.RowKit Go.Proofs.Ytnnkedeohfbkeaa.P Go.Proofs.Ytnnkedeohfbkeaa.M Go.Proofs.YtnnkedeohfbkeaaW.PrintWords Go.Proofs.YtnnkedeohfbkeaaW.PrintLast Go.Proofs.YtnnkedeohfbkeaaW.PrintMore
namespace Mach
theorem under_m {ws : List Txt} (h : OkW ws) (p : Txt) (hp : p.length ≤ 4611686018427387900) : Ev (fun k => impl_Trie_under.f k (trN (preL ws) ws) (B p)) ((ws.filter fun w => hasPre w p).map B) := by
 unfold impl_Trie_under.f
 refine Ev.bind (words_ev h) (Ev.ifT (by rw [List.length_map]; have := h.len; omega) ?_)
 rw [filt_of (fun x => hasPre x.data.toList p) (fun x hx => by
  obtain ⟨w, hw, rfl⟩ := List.mem_map.1 hx
  rw [data_B]
  exact HasPrefix_eq w p (by have := h.le w hw; omega) hp)]
 rw [List.filter_map]
 have e : (fun x : ByteArray => hasPre x.data.toList p) ∘ B = fun w => hasPre w p := by
  funext w; show hasPre (B w).data.toList p = _; rw [data_B]
 rw [e]
 exact Ev.now _
theorem behind_ev {ws : List Txt} (h : OkW ws) (p : Txt) (hp : p.length ≤ 4611686018427387900) : Ev (fun k => impl_Trie_behind.f k (trN (preL ws) ws) (B p)) ((behL ws p).map B) := by
 unfold impl_Trie_behind.f
 refine Ev.bind (under_m h p hp) (Ev.ifT ⟨?_, ?_⟩ ?_)
 ·
  rw [List.length_map]
  have h1 := List.length_filter_le (fun w => hasPre w p) ws
  have h2 := h.len
  omega
 ·
  rw [List.all_eq_true]
  intro x hx
  obtain ⟨w, hw, rfl⟩ := List.mem_map.1 hx
  obtain ⟨h1, h2⟩ := List.mem_filter.1 hw
  have h3 := (hasPre_pre.1 h2).length_le
  have h4 := h.le w h1
  rw [decide_eq_true_eq, size_B, size_B]
  omega
 ·
  rw [List.map_map]
  unfold behL
  rw [List.map_map]
  have e : ∀ w ∈ ws.filter fun w => hasPre w p, (impl_Trie_behind.cut (B p) ∘ B) w = (B ∘ fun w : Txt => w.drop p.length) w := fun w _ => by
   show (B w).extract (B p).size (B w).size = B (w.drop p.length)
   rw [extract_B, size_B, size_B, List.take_of_length_le (by rw [List.length_drop]; omega)]
  rw [List.map_congr_left e]
  exact Ev.now _
theorem ends_in {ws : List Txt} (h : OkW ws) (P : List ByteArray) (N : List S65) (E : List ByteArray) (n : Int) (b : List Txt) (m : Nat) (hb : Res m b) (hm : m ≤ 12) (hl : b.length ≤ 40) (hE : E.length ≤ 1000000) (r : List ByteArray)
  (hr : Ev (fun k => impl_Trie_ends.l0 k (E ++ [B (joinT b)]) P (P.length : Int) (wrap64 (n + 1)) N) r) :
  ∀ d i (acc : Txt), i + d = b.length → acc ++ joinT (b.drop i) = joinT b → acc.length ≤ 13 * i → Ev (fun k => impl_Trie_ends.l1 k E (B acc) P (P.length : Int) n (b.map B) ((b.map B).length : Int) (i : Int) N) r := by
 intro d
 induction d with
 | zero =>
  intro i acc h1 h2 h3
  rw [List.drop_of_length_le (by omega)] at h2
  rw [show joinT [] = [] from rfl, List.append_nil] at h2
  refine Ev.step (fun k => impl_Trie_ends.l1.eq_2 ..) (Ev.ifF (by rw [List.length_map]; omega) (Ev.ifT (by omega) ?_))
  rw [h2]
  exact hr
 | succ d ih =>
  intro i acc h1 h2 h3
  have hi : i < b.length := by omega
  have hw := hb.len _ (getD_mem hi)
  rw [drop_cons_getD [] hi] at h2
  have e : (⟨#[44]⟩ : ByteArray) = B [44] := rfl
  refine Ev.step (fun k => impl_Trie_ends.l1.eq_2 ..) (Ev.ifT (by rw [List.length_map]; omega) (Ev.ifT (by omega) (Ev.ifT (by rw [List.length_map]; omega) ?_)))
  rw [rdB b i hi, e, append_B]
  refine Ev.ifT (by rw [size_B]; omega) (Ev.ifT (by rw [size_B, size_B, List.length_append, List.length_singleton]; omega) ?_)
  rw [append_B, wrap64_succ i (by omega)]
  refine ih (i + 1) _ (by omega) ?_ ?_
  ·
   rw [← h2, joinT]
   simp
  ·
   rw [List.length_append, List.length_append, List.length_singleton]
   omega
def endsT (ws : List Txt) : List ByteArray := (resL ws).map fun b => B (joinT b)
theorem endsT_length (ws : List Txt) : (endsT ws).length = (preL ws).length := by unfold endsT; rw [List.length_map, resL_length]
theorem ends_ev {ws : List Txt} (h : OkW ws) : Ev (fun k => impl_Trie_ends.f k (trN (preL ws) ws)) (endsT ws) := by
 have hP := h.pre
 have loop : ∀ d n, n + d = (preL ws).length → Ev (fun k => impl_Trie_ends.l0 k ((endsT ws).take n) ((preL ws).map B) (((preL ws).map B).length : Int) (n : Int) (trN (preL ws) ws)) (endsT ws) := by
  intro d
  induction d with
  | zero =>
   intro n hn
   rw [List.take_of_length_le (by rw [endsT_length]; omega)]
   exact Ev.step (fun k => impl_Trie_ends.l0.eq_2 ..) (Ev.ifF (by rw [List.length_map]; omega) (Ev.now _))
  | succ d ih =>
   intro n hn
   have hi : n < (preL ws).length := by omega
   have hw := (wordL_iff.1 (preL_word h.word (getD_mem hi))).2
   refine Ev.step (fun k => impl_Trie_ends.l0.eq_2 ..) (Ev.ifT (by rw [List.length_map]; omega) (Ev.ifT (by omega) (Ev.ifT (by rw [List.length_map]; omega) ?_)))
   rw [rdB _ n hi]
   refine Ev.bind (behind_ev h _ (by omega)) ?_
   have hb40 : (behL ws ((preL ws).getD n [])).length ≤ 40 := by
    unfold behL
    rw [List.length_map]
    exact Nat.le_trans (List.length_filter_le _ _) h.len
   refine ends_in h _ _ _ _ _ 12 (Res.beh12 h _) (Nat.le_refl _) hb40 (by rw [List.length_take]; omega) _ ?_ (behL ws ((preL ws).getD n [])).length 0 [] (by omega) rfl (by simp)
   rw [wrap64_succ n (by omega)]
   have e : (endsT ws).take n ++ [B (joinT (behL ws ((preL ws).getD n [])))] = (endsT ws).take (n + 1) := by
    rw [List.take_succ_eq_append_getElem (by rw [endsT_length]; exact hi)]
    congr 2
    unfold endsT
    rw [List.getElem_map, ← resL_get hi, getD_lt [] (by rw [resL_length]; exact hi)]
   rw [e]
   exact ih (n + 1) (by omega)
 unfold impl_Trie_ends.f
 exact Ev.bind (prefixes_tr h) (loop (preL ws).length 0 (by omega))
end Mach
end Go.Proofs.Ytnnkedeohfbkeaa.L
namespace Go.Proofs.Ytnnkedeohfbkeaa.L
open Go.RowKit Go.Proofs.Ytnnkedeohfbkeaa.P Go.Proofs.Ytnnkedeohfbkeaa.M Go.Proofs.YtnnkedeohfbkeaaW.PrintWords Go.Proofs.YtnnkedeohfbkeaaW.PrintLast Go.Proofs.YtnnkedeohfbkeaaW.PrintMore
namespace Mach
theorem kids_m {ws : List Txt} (h : OkW ws) {i : Nat} (hi : i < (preL ws).length) : Ev (fun k => impl_Trie_kids.f k (trN (preL ws) ws) (i : Int)) (kidW ws i) := by
 have hA := asc_preL ws
 have hC := clo_preL ws
 have hP := h.pre
 have cond : ∀ {n}, n < (preL ws).length → ((rd_T65 (trN (preL ws) ws) (n : Int)).f1 = (i : Int) ↔ isKid (preL ws) ((preL ws).getD i []) n = true) := fun {n} hn => by
  rcases Nat.eq_zero_or_pos n with h0 | h0
  ·
   subst h0
   obtain ⟨z1, z2⟩ := clo_zero hA hC
   rw [rdN _ ws 0 hn]
   unfold isKid
   rw [z2]
   have : (mkN (ndL (preL ws) ws [])).f1 = -1 := rfl
   rw [this]
   simp
   try omega
  ·
   rw [f1_pos ws hA hC hn h0]
   obtain ⟨p1, p2⟩ := clo_parent hA hC hn h0
   unfold isKid
   rw [decide_eq_true_eq]
   constructor
   ·
    intro e
    refine ⟨clo_pos hA hC hn h0, ?_⟩
    rw [← p2]
    congr 1
    omega
   ·
    rintro ⟨_, e⟩
    rw [e, placeL_get hA hi]
 have loop : ∀ d n, n + d = (preL ws).length → Ev (fun k => impl_Trie_kids.l0 k (i : Int) (kidU (preL ws) ((preL ws).getD i []) n) (trN (preL ws) ws) ((trN (preL ws) ws).length : Int) (n : Int)) (kidW ws i) := by
  intro d
  induction d with
  | zero =>
   intro n hn
   rw [show n = (preL ws).length from by omega, kidW_eq h]
   exact Ev.step (fun k => impl_Trie_kids.l0.eq_2 ..) (Ev.ifF (by rw [trN_length]; omega) (Ev.now _))
  | succ d ih =>
   intro n h1
   have hn : n < (preL ws).length := by omega
   have hk := kidU_length (preL ws) ((preL ws).getD i []) n
   have hih := ih (n + 1) (by omega)
   refine Ev.step (fun k => impl_Trie_kids.l0.eq_2 ..) (Ev.ifT (by rw [trN_length]; omega) (Ev.ifT (by omega) (Ev.ifT (by rw [trN_length]; omega) ?_)))
   rw [kidU_succ] at hih
   rw [wrap64_succ n (by omega)]
   by_cases hc : isKid (preL ws) ((preL ws).getD i []) n = true
   ·
    rw [if_pos hc] at hih
    exact Ev.ifT ((cond hn).2 hc) (Ev.ifT (by omega) hih)
   ·
    rw [if_neg hc, List.append_nil] at hih
    exact Ev.ifF (fun e => hc ((cond hn).1 e)) hih
 exact loop (preL ws).length 0 (by omega)
def keyT (b : List Txt) : ByteArray := B (joinT b)
theorem keyT_eq {n m : Nat} {a b : List Txt} (ha : Res n a) (hb : Res m b) : (keyT a).data.toList = (keyT b).data.toList ↔ a = b := by
 unfold keyT
 rw [data_B, data_B, joinT_res ha hb]
theorem has_key : ∀ (l : List (List Txt)) (b : List Txt), (∀ x ∈ l, Res 12 x) → Res 12 b → SM.has_ (l.map keyT) (keyT b) = decide (b ∈ l)
 | [], _, _, _ => rfl
 | x :: l, b, hl, hb => by
  rw [List.map_cons, SM.has_cons, has_key l b (fun y hy => hl y (List.mem_cons_of_mem _ hy)) hb, Bool.eq_iff_iff, Bool.or_eq_true, decide_eq_true_eq, decide_eq_true_eq, decide_eq_true_eq, keyT_eq (hl x List.mem_cons_self) hb, List.mem_cons]
  exact ⟨fun h => h.imp_left Eq.symm, fun h => h.imp_left Eq.symm⟩
theorem at_snoc (l : List ByteArray) (x p : ByteArray) : SM.at_ (l ++ [x]) p = if x.data.toList = p.data.toList then (l.length : Int) else SM.at_ l p := by
 unfold SM.at_
 rw [List.reverse_append]
 show (if _ then ((l.reverse.length : Nat) : Int) else _) = _
 rw [List.length_reverse]
 rfl
theorem at_key : ∀ (d : Nat) (l : List (List Txt)) (b : List Txt), l.length = d → (∀ x ∈ l, Res 12 x) → l.Nodup → b ∈ l → SM.at_ (l.map keyT) (keyT b) = (l.idxOf b : Int)
 | 0, l, b, hd, _, _, hm => by rw [List.length_eq_zero_iff.1 hd] at hm; cases hm
 | d + 1, l, b, hd, hl, hn, hm => by
  have hne : l ≠ [] := fun e => by rw [e] at hm; cases hm
  obtain ⟨r, y, rfl⟩ : ∃ r y, l = r ++ [y] := ⟨l.dropLast, l.getLast hne, (List.dropLast_concat_getLast hne).symm⟩
  have hrl : r.length = d := by rw [List.length_append, List.length_singleton] at hd; omega
  rw [List.map_append, List.map_singleton, at_snoc, List.length_map]
  rw [List.nodup_append] at hn
  have hb : Res 12 b := hl b hm
  by_cases e : y = b
  ·
   subst e
   have hnr : y ∉ r := fun k => hn.2.2 y k y (List.mem_singleton.2 rfl) rfl
   rw [if_pos rfl, idx_new hnr]
  ·
   have hbr : b ∈ r := by
    rcases List.mem_append.1 hm with k | k
    ·
     exact k
    ·
     exact absurd (List.mem_singleton.1 k).symm e
   rw [if_neg (fun k => e ((keyT_eq (hl y (List.mem_append_right _ (List.mem_singleton.2 rfl))) hb).1 k)), at_key d r b hrl (fun x hx => hl x (List.mem_append_left _ hx)) hn.1 hbr, idx_pre (List.prefix_append _ _) hbr]
theorem fL_res {ws : List Txt} (h : OkW ws) {n : Nat} (hn : n ≤ (preL ws).length) : ∀ x ∈ fL ws n, Res 12 x := fun x hx => dL_res h ((fL_pre' hn).subset hx)
theorem endsT_get {ws : List Txt} {n : Nat} (hn : n < (preL ws).length) : rdOf ByteArray.empty (endsT ws) (n : Int) = keyT ((resL ws).getD n []) := by
 unfold rdOf endsT
 rw [Int.toNat_natCast, getD_lt _ (by simpa [resL_length] using hn), List.getElem_map, getD_lt [] (by rw [resL_length]; exact hn)]
 rfl
theorem fB_eq {ws : List Txt} (h : OkW ws) : ∀ n, n ≤ (preL ws).length → impl_Trie_machine.fB (endsT ws) n = (fL ws n).map keyT
 | 0, _ => rfl
 | n + 1, hn => by
  rw [impl_Trie_machine.fB, fB_eq h n (by omega), endsT_get (by omega), has_key _ _ (fL_res h (by omega)) (dL_res h (res_mem (by omega))), fL_succ (by omega)]
  by_cases hm : (resL ws).getD n [] ∈ fL ws n
  ·
   rw [if_pos hm, if_pos (decide_eq_true hm)]
  ·
   rw [if_neg hm, if_neg (by rw [decide_eq_false hm]; exact Bool.false_ne_true), List.map_append]; rfl
def st0 (b : List Txt) : S77 := ⟨decide ([] ∈ b), []⟩
theorem sB_eq {ws : List Txt} (h : OkW ws) : ∀ n, n ≤ (preL ws).length → impl_Trie_machine.sB (trN (preL ws) ws) (endsT ws) n = (fL ws n).map st0
 | 0, _ => rfl
 | n + 1, hn => by
  rw [impl_Trie_machine.sB, sB_eq h n (by omega), fB_eq h n (by omega), endsT_get (by omega), has_key _ _ (fL_res h (by omega)) (dL_res h (res_mem (by omega))), fL_succ (by omega), end_eq (by omega)]
  by_cases hm : (resL ws).getD n [] ∈ fL ws n
  ·
   rw [if_pos hm, if_pos (decide_eq_true hm)]
  ·
   rw [if_neg hm, if_neg (by rw [decide_eq_false hm]; exact Bool.false_ne_true), List.map_append]; rfl
def idsW (ws : List Txt) (n : Nat) : List Int := (List.range n).map fun j => ((dL ws).idxOf ((resL ws).getD j []) : Int)
theorem iB_eq {ws : List Txt} (h : OkW ws) : ∀ n, n ≤ (preL ws).length → impl_Trie_machine.iB (endsT ws) n = idsW ws n
 | 0, _ => rfl
 | n + 1, hn => by
  rw [impl_Trie_machine.iB, iB_eq h n (by omega), fB_eq h (n + 1) hn, endsT_get (by omega), at_key _ _ _ rfl (fL_res h hn) (fL_nodup _ _) (fL_mem (by omega)), ← idx_met hn (fL_mem (by omega))]
  unfold idsW
  rw [List.range_succ, List.map_append]
  rfl
theorem idsW_get {ws : List Txt} {n j : Nat} (hj : j < n) : rd (idsW ws n) (j : Int) = ((dL ws).idxOf ((resL ws).getD j []) : Int) := by
 rw [rd_nat]
 unfold idsW
 rw [getD_lt 0 (by simpa using hj)]
 simp
theorem idsW_length (ws : List Txt) (n : Nat) : (idsW ws n).length = n := by simp [idsW]
def doneW (ws : List Txt) (n : Nat) : List Bool := (dL ws).map fun b => decide (b ∈ fL ws n)
def stsW (ws : List Txt) (n : Nat) : List S77 := (dL ws).map fun b => if b ∈ fL ws n then stW ws b else st0 b
theorem map_idx {α : Type} (z : α) {ws : List Txt} {b : List Txt} (hb : b ∈ dL ws) (g : List Txt → α) : ((dL ws).map g).getD ((dL ws).idxOf b) z = g b := by
 rw [List.getD_eq_getElem?_getD, List.getElem?_map, idx_get hb]
 rfl
theorem map_set {α : Type} {ws : List Txt} {b : List Txt} (hb : b ∈ dL ws) (g g' : List Txt → α) (hg : ∀ x ∈ dL ws, x ≠ b → g' x = g x) : ((dL ws).map g).set ((dL ws).idxOf b) (g' b) = (dL ws).map g' := by
 apply List.ext_getElem
 ·
  rw [List.length_set, List.length_map, List.length_map]
 ·
  intro j j1 j2
  rw [List.getElem_set, List.getElem_map, List.getElem_map]
  have hj : j < (dL ws).length := by rw [List.length_map] at j2; exact j2
  by_cases e : (dL ws).idxOf b = j
  ·
   rw [if_pos e]
   have h1 := idx_get hb
   rw [e, List.getElem?_eq_getElem hj] at h1
   rw [Option.some.inj h1]
  ·
   rw [if_neg e]
   refine (hg _ (List.getElem_mem hj) fun k => e ?_).symm
   have hnd : (dL ws).Nodup := by have := fL_nodup ws (preL ws).length; rwa [fL_all] at this
   rw [← k]
   exact idxOf_nodup hnd j hj
theorem machine_ev {ws : List Txt} (h : OkW ws) : Ev (fun k => impl_Trie_machine.f k (trN (preL ws) ws)) (machW ws, idsW ws (preL ws).length) := by
 have hP := h.pre
 have hDl := dL_length h
 have loop : ∀ d i, i + d = (preL ws).length → Ev (fun k => impl_Trie_machine.l1 k (trN (preL ws) ws) (idsW ws (preL ws).length) d i (doneW ws i) (stsW ws i)) (machW ws) := by
  intro d
  induction d with
  | zero =>
   intro i hi
   have e : stsW ws i = machW ws := by
    unfold stsW machW
    refine List.map_congr_left fun b hb => ?_
    rw [show i = (preL ws).length from by omega, fL_all, if_pos hb]
   rw [e]
   exact Ev.now _
  | succ d ih =>
   intro i hd
   have hi : i < (preL ws).length := by omega
   have hm := res_mem hi
   have hlt := idx_lt hm
   have hih := ih (i + 1) (by omega)
   have hdone : rdOf false (doneW ws i) ((dL ws).idxOf ((resL ws).getD i []) : Int) = decide ((resL ws).getD i [] ∈ fL ws i) := by
    unfold rdOf doneW
    rw [Int.toNat_natCast, map_idx false hm]
   have hsts : rd_T77 (stsW ws i) ((dL ws).idxOf ((resL ws).getD i []) : Int) = if (resL ws).getD i [] ∈ fL ws i then stW ws ((resL ws).getD i []) else st0 ((resL ws).getD i []) := by
    unfold rd_T77 stsW
    rw [Int.toNat_natCast, map_idx _ hm]
   unfold impl_Trie_machine.l1
   rw [idsW_get hi, hdone]
   refine Ev.ifT ⟨by omega, by unfold stsW; rw [List.length_map]; omega, by unfold doneW; rw [List.length_map]; omega⟩ ?_
   by_cases hn : (resL ws).getD i [] ∈ fL ws i
   ·
    refine Ev.ifT (decide_eq_true hn) ?_
    have e1 : doneW ws (i + 1) = doneW ws i := by unfold doneW; rw [fL_succ hi, if_pos hn]
    have e2 : stsW ws (i + 1) = stsW ws i := by unfold stsW; rw [fL_succ hi, if_pos hn]
    rw [e1, e2] at hih
    exact hih
   ·
    refine Ev.ifF (by rw [decide_eq_false hn]; exact Bool.false_ne_true) (Ev.bind (kids_m h hi) ?_)
    rw [hsts, if_neg hn]
    have l26 := letsL_length ((resL ws).getD i [])
    have hkl : (kidW ws i).length = (letsL ((resL ws).getD i [])).length := by rw [kidW_length, resL_get hi]
    have hok : impl_Trie_machine.okk (trN (preL ws) ws) (idsW ws (preL ws).length) (kidW ws i) = true := by
     unfold impl_Trie_machine.okk
     rw [List.all_eq_true]
     intro x hx
     obtain ⟨j, hj, rfl⟩ := List.getElem_of_mem hx
     obtain ⟨q, q1, q2, _⟩ := kid_at h hi hj
     rw [getD_lt 0 hj] at q1
     rw [q1, decide_eq_true_eq, trN_length, idsW_length]
     omega
    refine Ev.ifT ⟨hok, by omega, by unfold st0; simp⟩ ?_
    have hF : ∀ x, x ∈ fL ws (i + 1) ↔ x ∈ fL ws i ∨ x = (resL ws).getD i [] := fun x => by rw [fL_succ hi, if_neg hn, List.mem_append, List.mem_singleton]
    have e1 : (doneW ws i).set ((dL ws).idxOf ((resL ws).getD i []) : Int).toNat true = doneW ws (i + 1) := by
     rw [Int.toNat_natCast]
     have := map_set hm (fun b => decide (b ∈ fL ws i)) (fun b => decide (b ∈ fL ws (i + 1))) (fun x _ hx => by
      congr 1
      exact propext ((hF x).trans ⟨fun k => k.resolve_right hx, .inl⟩))
     rw [decide_eq_true (fL_mem hi)] at this
     exact this
    have e2 : (stsW ws i).set ((dL ws).idxOf ((resL ws).getD i []) : Int).toNat (impl_Trie_machine.add (trN (preL ws) ws) (idsW ws (preL ws).length) (kidW ws i) (st0 ((resL ws).getD i []))) = stsW ws (i + 1) := by
     rw [Int.toNat_natCast]
     have := map_set hm (fun b => if b ∈ fL ws i then stW ws b else st0 b) (fun b => if b ∈ fL ws (i + 1) then stW ws b else st0 b) (fun x _ hx => by
      have : x ∈ fL ws (i + 1) ↔ x ∈ fL ws i := (hF x).trans ⟨fun k => k.resolve_right hx, .inl⟩
      by_cases k : x ∈ fL ws i
      ·
       show (if _ then _ else _) = (if _ then _ else _)
       rw [if_pos k, if_pos (this.2 k)]
      ·
       show (if _ then _ else _) = (if _ then _ else _)
       rw [if_neg k, if_neg (fun z => k (this.1 z))])
     simp only [if_pos (fL_mem hi)] at this
     have e3 : impl_Trie_machine.add (trN (preL ws) ws) (idsW ws (preL ws).length) (kidW ws i) (st0 ((resL ws).getD i [])) = stW ws ((resL ws).getD i []) := by
      rw [stW_eq]
      unfold impl_Trie_machine.add st0
      congr 1
      rw [List.nil_append]
      apply List.ext_getElem
      ·
       rw [List.length_map, List.length_map, hkl]
      ·
       intro j j1 j2
       have hj : j < (kidW ws i).length := by rw [List.length_map] at j1; exact j1
       obtain ⟨q, q1, q2, q3, q4, q5, q6⟩ := kid_at h hi hj
       rw [getD_lt 0 hj] at q1
       rw [getD_lt 0 (by omega)] at q5 q6
       rw [List.getElem_map, List.getElem_map, q1, q5, idsW_get q2, q6]
       rfl
     rw [e3]
     exact this
    rw [e1, e2]
    exact hih
 unfold impl_Trie_machine.f
 refine Ev.bind (ends_ev h) (Ev.ifT ⟨by rw [endsT_length, trN_length], by rw [trN_length]; omega, ?_⟩ ?_)
 ·
  unfold SM.okL
  rw [Bool.and_eq_true, List.all_eq_true, decide_eq_true_eq, endsT_length]
  refine ⟨fun x hx => ?_, by omega⟩
  unfold endsT at hx
  obtain ⟨b, hb, rfl⟩ := List.mem_map.1 hx
  obtain ⟨p, _, rfl⟩ := List.mem_map.1 hb
  have h1 := joinT_length (behL ws p) 12 (Res.beh12 h p).len
  have h2 : (behL ws p).length ≤ 40 := by
   unfold behL
   rw [List.length_map]
   exact Nat.le_trans (List.length_filter_le _ _) h.len
  rw [decide_eq_true_eq, size_B]
  have h3 : (behL ws p).length * 13 ≤ 40 * 13 := Nat.mul_le_mul_right _ h2
  omega
 ·
  rw [trN_length, iB_eq h _ (Nat.le_refl _), sB_eq h _ (Nat.le_refl _), fL_all, List.length_map]
  have e1 : List.replicate (dL ws).length false = doneW ws 0 := by
   unfold doneW
   rw [fL_zero]
   apply List.ext_getElem
   ·
    simp
   ·
    intro j j1 j2; simp
  have e2 : (dL ws).map st0 = stsW ws 0 := by
   unfold stsW
   refine List.map_congr_left fun b hb => ?_
   rw [fL_zero, if_neg (by simp)]
  rw [e1, e2]
  exact Ev.bind (loop (preL ws).length 0 (by omega)) (Ev.now _)
end Mach
end Go.Proofs.Ytnnkedeohfbkeaa.L
namespace Go.Proofs.Ytnnkedeohfbkeaa.Pure
open Go.RowKit Go.Proofs.Ytnnkedeohfbkeaa.P Go.Proofs.Ytnnkedeohfbkeaa.M Go.Proofs.YtnnkedeohfbkeaaW.PrintWords Go.Proofs.YtnnkedeohfbkeaaW.PrintLast Go.Proofs.YtnnkedeohfbkeaaW.PrintMore
open Go.Proofs.Ytnnkedeohfbkeaa.L
open Mach
theorem both (N : List Nd) : ∃ r : Int × Bool, Ev (fun k => spec_SavedNodes.f k N) r ∧ Ev (fun k => impl_SavedNodes.f k N) r := by
 unfold spec_SavedNodes.f impl_SavedNodes.f impl_MachineOf.f
 rcases trie_both N with ⟨⟨ws, h, rfl⟩, t1, t2⟩ | ⟨_, t1, t2⟩
 ·
  exact ⟨_, Ev.bind t1 (Ev.ifT rfl (Ev.bind (l7Machine_ev h) (Ev.now _))), Ev.bind (Ev.bind t2 (Ev.ifT rfl (Ev.bind (machine_ev h) (Ev.now _)))) (Ev.ifT rfl (Ev.now _))⟩
 ·
  exact ⟨(0, false), Ev.bind t1 (Ev.ifF Bool.false_ne_true (Ev.now _)), Ev.bind (Ev.bind t2 (Ev.ifF Bool.false_ne_true (Ev.now _))) (Ev.ifF Bool.false_ne_true (Ev.now _))⟩
theorem FnExactSavedNodes : laws_FnExactSavedNodes.Pure := by
 intro l hl
 by_cases hs : l.length ≤ 1048576
 ·
  obtain ⟨r, h1, h2⟩ := both (toN l)
  refine Ev.rounds ?_
  unfold laws_FnExactSavedNodes.f
  rw [szTrie_eq l hl, if_pos hs]
  refine Ev.some_bind (Ev.ifF (by omega) (Ev.bind (toTrie_ev l hs) (Ev.bind h1 (Ev.bind (toTrie_ev l hs) (Ev.bind h2 ?_)))))
  refine Ev.ifT rfl (Ev.step (fun k => laws_FnExactSavedNodes.j0.eq_2 ..) (Ev.ifF (by simp) (Ev.bind (toTrie_ev l hs) (Ev.bind (eqTrie_ev _ (by rw [toN_length]; omega)) (Ev.ifT rfl (Ev.now _))))))
 ·
  exact ⟨0, by unfold laws_FnExactSavedNodes.f; rw [szTrie_eq l hl, if_neg hs]; rfl⟩
end Go.Proofs.Ytnnkedeohfbkeaa.Pure
namespace Go.Proofs.Ytnnkedeohfbkeaa.fnExactSavedNodes
open Go.ChangeShapes Go.WideShapes Go.ChangeAt Go.RowKit Go.Proofs.Ytnnkedeohfbkeaa.P
open Go.ChangeMaps (open_string shut_string)
theorem own : ownKnob Try.prog.godebug = none := by kernel_rfl
theorem laidOut : laidOutB Try.prog = true := by kernel_rfl
theorem lifted (os : Os) (started : os.Started) (H : Type) (enc : TypeId × Value → H) :
    ReturnsInHanded {} Try.checked os 4 .any (Rows.fnExactSavedNodesSpec.pre6 enc Try.prog Try.f4 Rows.fnExactSavedNodesRow.domain false) (Rows.fnExactSavedNodesSpec.post enc Try.prog Try.f4 false true false false) := by
  refine returnsInHanded_of_change_sized (C := Try.checked) own started (by kernel_rfl) Try.func4
    (ChangeSpec.witness6 (enc := enc) (C := Try.checked) false ⟨#[], #[.agg #[.slice none 0 0]], []⟩ 8 (by kernel_rfl) (by kernel_rfl) (by kernel_rfl) (by kernel_rfl)) ?_
  intro W base args ds gs before hval0 hW hcnd hsz0 _
  have hsz : (DataW.weightsEach Try.prog (Try.f4.params.toList ++ Rows.fnExactSavedNodesSpec.plain.varTypes Try.prog) (ds ++ gs)).all (· ≤ reachBytes) = true := hsz0
  have hval : ∀ (j : Nat) t v, Try.f4.params[j]? = some t → args[j]? = some v → Value.okWide Try.prog W .any base t v := hval0
  have hW' := hW
  obtain ⟨p, q, hA0, hV, rfl, hfz, hnd⟩ := hW
  have hA : DataW.TrodAll enc Try.prog W 0 (fun _ => true) true Try.f4.params.toList args.toList ds p := hA0
  rw [Try.params4] at hA hval hsz
  obtain ⟨v0, vs0, d0, ds0, p0, q0, hargs, rfl, rfl, h0, r0⟩ := trodAll_cons hA
  obtain ⟨rfl, rfl, rfl⟩ := trodAll_nil r0
  obtain rfl : args = #[v0] := by cases args; simp_all
  obtain ⟨rfl, rfl⟩ := trodVars_none hV
  have k0 := h0
  have lt0 : ∀ x ∈ p0, x.block < W.heap.size := by obtain ⟨m, hm⟩ := k0; exact DataW.trod_lt m _ _ _ hm
  obtain ⟨A0, c0, l0, ev0, hc0, hr0⟩ := OT.trie (hval 0 24 v0 rfl rfl) h0
  subst ev0
  clear hA0 hval0 hsz0 hsz
  refine (laws_FnExactSavedNodes.walk Pure.FnExactSavedNodes W A0 c0 l0 hr0 hc0).mono fun e W' ⟨he, bel⟩ => ?_
  subst he
  exact ⟨_, rfl, _, _, _, [], _, [], hW', trodAll_mk1 (shut_bool Try.underlying4 _), (trodAll_cons_mk (Below.trod laidOut (by kernel_rfl) (of_decide_eq_true (by kernel_rfl)) k0 bel lt0) trodAll_mk0), rfl, bel.frame _, fun h => by cases h⟩
theorem over : Rows.fnExactSavedNodesRow.holds Try.pinned (OpenSpec.ofChange Rows.fnExactSavedNodesSpec) :=
  OpenClaim.holds_of_wide 4 Try.f4 rfl rfl rfl rfl rfl rfl rfl ⟨rfl, rfl, rfl, rfl, rfl⟩ rfl rfl rfl rfl rfl (by kernel_rfl) Try.func4 (by kernel_rfl)
    (of_decide_eq_true (by kernel_rfl)) (by unfold Func.isWrapper; first | (rw [if_pos (by decide +kernel)]; kernel_rfl) | (rw [if_neg (by decide +kernel)]; exact ⟨rfl, rfl⟩))
    (fun os started H enc _ => lifted os started H enc)
theorem proved : Rows.FnExactSavedNodesSaid := over
end Go.Proofs.Ytnnkedeohfbkeaa.fnExactSavedNodes
namespace Go.Proofs.Ytnnkedeohfbkeaa
theorem fnExactSavedNodes_holds : Rows.FnExactSavedNodesSaid := fnExactSavedNodes.proved
end Go.Proofs.Ytnnkedeohfbkeaa
