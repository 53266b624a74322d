/-
  Part 6 of the proof that FnExactFittingWords returns true for every input: the functions that it reaches, each with its contract, and the law.
  Conditions: those of the given statement, no others.
-/
import Derived.Test.YtjpepfdpihojfaaGreatDoorCFnExactFittingWordsW0
import Derived.Test.YtjpepfdpihojfaaGreatDoorRows
import Derived.WalkKit
import Derived.ProofKit
import Derived.OpenShut
import Derived.ShutString
import Derived.ChangeOld
import Derived.Below
import Derived.SizedLaws
import Derived.Lay
import Derived.LaidOnce
import Derived.SevenTiedAt
import Derived.Test.YtjpepfdpihojfaaGreatDoorCards
import Derived.Test.YtjpepfdpihojfaaGreatDoorTie
import Derived.Test.YtjpepfdpihojfaaGreatDoorCFnExactFittingWords0
import Derived.Test.YtjpepfdpihojfaaGreatDoorCFnExactFittingWords3
import Derived.Test.YtjpepfdpihojfaaGreatDoorCFnExactFittingWords4
import Derived.Test.YtjpepfdpihojfaaGreatDoorCFnExactFittingWords1
import Derived.Test.YtjpepfdpihojfaaGreatDoorCFnExactFittingWords2
set_option linter.unusedVariables false
set_option linter.unusedSimpArgs false
set_option maxHeartbeats 8000000
set_option maxRecDepth 100000
namespace Go.Proofs.YtjpepfdpihojfaaGreatDoor.L
open Go.RowKit Go.Proofs.YtjpepfdpihojfaaGreatDoor.P Go.Proofs.YtjpepfdpihojfaaGreatDoor.M Go.Proofs.YtjpepfdpihojfaaGreatDoorW.PrintWords Go.Proofs.YtjpepfdpihojfaaGreatDoorW.PrintLast Go.Proofs.YtjpepfdpihojfaaGreatDoorW.PrintMore
theorem in_eq (a b c : Int) : iF13.f a b c = some (decide (b ≤ a ∧ a ≤ c)) := by
 unfold iF13.f
 by_cases h : b ≤ a
 ·
  rw [if_pos (by omega)]; simp [h]
 rw [if_neg (by omega)]; simp [h]
abbrev Nd := S53
theorem bytesLess_eq : ∀ (x y : Txt), Op.bytesLess x y = decide (x < y)
 | [], [] => by rw [decide_eq_false (txt_irrefl [])]; rfl
 | _ :: _, [] => by rw [decide_eq_false (List.not_lt_nil _)]; rfl
 | [], b :: y => by rw [decide_eq_true (List.nil_lt_cons b y)]; rfl
 | a :: x, b :: y => by
  rw [Op.bytesLess, bytesLess_eq x y, Bool.eq_iff_iff, decide_eq_true_eq, List.cons_lt_cons_iff]
  simp
theorem less_eq (x y : Txt) : xF5.f (B x) (B y) = some (decide (x < y)) := by
 unfold xF5.f xF6.f
 rw [toList_B, toList_B, ← bytesLess_eq]
 simp
def Srt (ws : List Txt) : Prop := ∀ j, j + 1 < ws.length → ¬ ws.getD (j + 1) [] < ws.getD j []
theorem Srt.le {ws : List Txt} (h : Srt ws) (i : Nat) : ∀ d, i + d < ws.length → ¬ ws.getD (i + d) [] < ws.getD i []
 | 0, _ => txt_irrefl _
 | d + 1, hd => fun hlt => by
  have h1 := h.le i d (by omega)
  have h2 := h (i + d) (by omega)
  exact h1 (List.lt_of_le_of_lt (List.not_lt.1 h2) hlt)
theorem srt_asc {ws : List Txt} (h : Asc ws) : Srt ws := fun j hj => txt_asymm (asc_get h hj (Nat.lt_succ_self j))
theorem half_eq (i j : Nat) (h : i + j ≤ 4611686018427387903) : wrap64 ((IntKind.u64.wrap (wrap64 ((i : Int) + (j : Int)))) / 2) = (((i + j) / 2 : Nat) : Int) := by
 have e1 : wrap64 ((i : Int) + (j : Int)) = ((i + j : Nat) : Int) := by rw [wrap64_id (by omega) (by omega)]; omega
 have e2 : IntKind.u64.wrap (((i + j : Nat) : Int)) = ((i + j : Nat) : Int) := by
  simp [IntKind.wrap, IntKind.bits, IntKind.signed]; omega
 rw [e1, e2, wrap64_id (by omega) (by omega)]
 omega
theorem search_loop (ws : List Txt) (p : Txt) (hl : ws.length ≤ 1000000000) (hs : Srt ws) : ∀ (d i j : Nat), i + d = j → j ≤ ws.length → (∀ m, m < i → ws.getD m [] < p) → (∀ m, j ≤ m → m < ws.length → ¬ ws.getD m [] < p) →
  ∃ q : Nat, q ≤ ws.length ∧ (∀ m, m < q → ws.getD m [] < p) ∧ (∀ m, q ≤ m → m < ws.length → ¬ ws.getD m [] < p) ∧ Ev (fun k => xF35.l0 k (ws.map B) (B p) (ws.length : Int) (i : Int) (j : Int)) ((q : Int), decide (p ∈ ws)) := by
 intro d
 induction d using Nat.strongRecOn with
 | _ d ih =>
  intro i j h1 h2 h3 h4
  by_cases hij : i < j
  ·
   have hh : (i + j) / 2 < ws.length := by omega
   by_cases hlt : ws.getD ((i + j) / 2) [] < p
   ·
    obtain ⟨q, q1, q2, q3, q4⟩ := ih (j - ((i + j) / 2 + 1)) (by omega) ((i + j) / 2 + 1) j (by omega) h2 (fun m hm => by
     by_cases e : m = (i + j) / 2
     ·
      rw [e]; exact hlt
     by_cases hmi : m < i
     ·
      exact h3 m hmi
     have hle := hs.le m ((i + j) / 2 - m) (by omega)
     rw [show m + ((i + j) / 2 - m) = (i + j) / 2 from by omega] at hle
     exact List.lt_of_le_of_lt (List.not_lt.1 hle) hlt) h4
    refine ⟨q, q1, q2, q3, Ev.step (fun k => xF35.l0.eq_2 ..) (Ev.ifT (by omega) ?_)⟩
    rw [half_eq i j (by omega)]
    refine Ev.ifT (by omega) (Ev.ifT (by rw [List.length_map]; omega) ?_)
    rw [rdB ws _ hh, less_eq, decide_eq_true hlt]
    refine Ev.some_bind (Ev.ifT rfl ?_)
    rw [wrap64_succ _ (by omega)]
    exact q4
   obtain ⟨q, q1, q2, q3, q4⟩ := ih ((i + j) / 2 - i) (by omega) i ((i + j) / 2) (by omega) (by omega) h3 (fun m hm hml => by
    have hle := hs.le ((i + j) / 2) (m - (i + j) / 2) (by omega)
    rw [show (i + j) / 2 + (m - (i + j) / 2) = m from by omega] at hle
    exact fun hp => hlt (List.lt_of_le_of_lt (List.not_lt.1 hle) hp))
   refine ⟨q, q1, q2, q3, Ev.step (fun k => xF35.l0.eq_2 ..) (Ev.ifT (by omega) ?_)⟩
   rw [half_eq i j (by omega)]
   refine Ev.ifT (by omega) (Ev.ifT (by rw [List.length_map]; omega) ?_)
   rw [rdB ws _ hh, less_eq, decide_eq_false hlt]
   exact Ev.some_bind (Ev.ifF Bool.false_ne_true q4)
  obtain rfl : i = j := by omega
  refine ⟨i, h2, h3, h4, Ev.step (fun k => xF35.l0.eq_2 ..) (Ev.ifF (by omega) ?_)⟩
  by_cases hn : i < ws.length
  ·
   refine Ev.ifT (by omega) (Ev.ifT (by omega) (Ev.ifT (by rw [List.length_map]; omega) ?_))
   rw [rdB ws i hn, toList_B, toList_B]
   by_cases e : ws.getD i [] = p
   ·
    rw [decide_eq_true (show p ∈ ws from e ▸ getD_mem hn)]
    exact Ev.ifT e (Ev.now _)
   have hm : ¬ p ∈ ws := fun hp => by
    obtain ⟨z1, z2⟩ := placeL_mem hp
    have hz : i ≤ placeL ws p := by
     by_cases hzi : placeL ws p < i
     ·
      have := h3 _ hzi; rw [z2] at this; exact absurd this (txt_irrefl _)
     omega
    have hle := hs.le i (placeL ws p - i) (by omega)
    rw [show i + (placeL ws p - i) = placeL ws p from by omega, z2] at hle
    exact e (txt_tri (h4 i (Nat.le_refl _) hn) hle)
   rw [decide_eq_false hm]
   refine Ev.ifF e ?_
   unfold xF37.f
   exact Ev.some_bind (Ev.ifF (by simp) (Ev.now _))
  have hm : ¬ p ∈ ws := fun hp => by
   obtain ⟨z1, z2⟩ := placeL_mem hp
   have := h3 _ (show placeL ws p < i by omega)
   rw [z2] at this
   exact txt_irrefl _ this
  rw [decide_eq_false hm]
  exact Ev.ifF (by omega) (Ev.now _)
theorem search_ev (ws : List Txt) (p : Txt) (hl : ws.length ≤ 1000000000) (hs : Srt ws) : ∃ q : Nat, q ≤ ws.length ∧ (∀ m, m < q → ws.getD m [] < p) ∧ (∀ m, q ≤ m → m < ws.length → ¬ ws.getD m [] < p) ∧ Ev (fun k => xF35.f k (ws.map B) (B p)) ((q : Int), decide (p ∈ ws)) := by
 unfold xF35.f
 have := search_loop ws p hl hs ws.length 0 ws.length (by omega) (Nat.le_refl _) (fun m hm => absurd hm (Nat.not_lt_zero _)) (fun m h1 h2 => absurd h2 (by omega))
 rw [List.length_map]
 exact this
def prefGo : List Nd → List Txt → Option (List Txt)
 | [], acc => some acc
 | n :: r, acc => if 0 ≤ n.f1 ∧ n.f1 < (acc.length : Int) ∧ 0 ≤ n.f0 ∧ n.f0 ≤ 25 then prefGo r (acc ++ [acc.getD n.f1.toNat [] ++ [UInt8.ofNat (97 + n.f0.toNat)]]) else none
def prefR : Option (List Txt) → List ByteArray × Bool
 | some ps => (ps.map B, true)
 | none => ([], false)
theorem letter_eq (n : Int) (h0 : 0 ≤ n) (h1 : n ≤ 25) : iF17.f n = some (B [UInt8.ofNat (97 + n.toNat)]) := by
 unfold iF17.f
 rw [strOfNums_B]
 congr 3
 rw [wrap64_id (by omega) (by omega)]
 congr 1
 omega
theorem getD_le {acc : List Txt} {b : Nat} (h : ∀ p ∈ acc, p.length ≤ b) (n : Nat) : (acc.getD n []).length ≤ b := by
 by_cases hn : n < acc.length
 ·
  exact h _ (getD_mem hn)
 rw [List.getD_eq_getElem?_getD, List.getElem?_eq_none (by omega)]; simp
theorem pref_loop (N' : List Nd) (hN : N'.length ≤ 1000000) : ∀ (d i : Nat) (acc : List Txt), i + d = N'.length → acc.length = i + 1 → (∀ p ∈ acc, p.length ≤ i) →
  Ev (fun k => iF9.l0 k (acc.map B) N' (N'.length : Int) (i : Int)) (prefR (prefGo (N'.drop i) acc)) := by
 intro d
 induction d with
 | zero =>
  intro i acc h1 h2 h3
  rw [List.drop_of_length_le (by omega)]
  exact Ev.step (fun k => iF9.l0.eq_2 ..) (Ev.ifF (by omega) (Ev.now _))
 | succ d ih =>
  intro i acc h1 h2 h3
  have hi : i < N'.length := by omega
  rw [List.drop_eq_getElem_cons hi]
  refine Ev.step (fun k => iF9.l0.eq_2 ..) (Ev.ifT (by omega) (Ev.ifT (by omega) (Ev.ifT (by omega) ?_)))
  rw [rd_get N' i hi, in_eq]
  unfold prefGo
  by_cases ha : 0 ≤ N'[i].f1 ∧ N'[i].f1 ≤ (i : Int)
  rotate_left
  ·
   rw [decide_eq_false ha, if_neg (fun h => ha ⟨h.1, by omega⟩)]
   exact Ev.some_bind (Ev.ifF Bool.false_ne_true (Ev.now _))
  rw [decide_eq_true ha]
  refine Ev.some_bind (Ev.ifT rfl ?_)
  rw [in_eq]
  by_cases hb : 0 ≤ N'[i].f0 ∧ N'[i].f0 ≤ 25
  rotate_left
  ·
   rw [decide_eq_false hb, if_neg (fun h => hb h.2.2)]
   exact Ev.some_bind (Ev.ifF Bool.false_ne_true (Ev.now _))
  rw [decide_eq_true hb, if_pos ⟨ha.1, by omega, hb.1, hb.2⟩]
  refine Ev.some_bind (Ev.ifT rfl (Ev.ifT ha.1 (Ev.ifT (by rw [List.length_map]; omega) ?_)))
  rw [letter_eq _ hb.1 hb.2]
  refine Ev.some_bind ?_
  obtain ⟨m, hm⟩ : ∃ m : Nat, N'[i].f1 = (m : Int) := ⟨N'[i].f1.toNat, by omega⟩
  have hml : m < acc.length := by omega
  have hmb := getD_le h3 m
  rw [hm, rdB acc m hml, Int.toNat_natCast]
  refine Ev.ifT (by rw [size_B, size_B, List.length_singleton]; omega) (Ev.ifT (by rw [List.length_map]; omega) ?_)
  rw [append_B, wrap64_succ i (by omega)]
  have := ih (i + 1) (acc ++ [acc.getD m [] ++ [UInt8.ofNat (97 + N'[i].f0.toNat)]]) (by omega) (by simp; omega) (fun p hp => by
   rcases List.mem_append.1 hp with hp | hp
   ·
    have := h3 p hp; omega
   rw [List.mem_singleton.1 hp]; simp; simpa using hmb)
  rw [List.map_append, List.map_singleton] at this
  exact this
def prefN (N : List Nd) : Option (List Txt) := if 1 ≤ N.length ∧ N.length ≤ 481 then prefGo (N.drop 1) [[]] else none
theorem prefixes_ev (N : List Nd) : Ev (fun k => iF9.f k N) (prefR (prefN N)) := by
 unfold iF9.f prefN
 simp only [in_eq]
 by_cases h : 1 ≤ N.length ∧ N.length ≤ 481
 ·
  rw [if_pos h, decide_eq_true (show (1 : Int) ≤ (N.length : Int) ∧ (N.length : Int) ≤ 481 by omega)]
  refine Ev.some_bind (Ev.ifT rfl (Ev.ifT (by omega) (Ev.some_bind ?_)))
  exact pref_loop (N.drop 1) (by rw [List.length_drop]; omega) (N.drop 1).length 0 [[]] (by omega) rfl (by simp)
 rw [if_neg h, decide_eq_false (show ¬ ((1 : Int) ≤ (N.length : Int) ∧ (N.length : Int) ≤ 481) by omega)]
 exact Ev.some_bind (Ev.ifF Bool.false_ne_true (Ev.now _))
theorem letterB_of (m : Nat) (h : m ≤ 25) : letterB (UInt8.ofNat (97 + m)) = true := by
 have : (UInt8.ofNat (97 + m)).toNat = 97 + m := by simp; omega
 simp only [letterB, this, decide_eq_true_eq]; omega
theorem prefGo_ok : ∀ (r : List Nd) (acc ps : List Txt), prefGo r acc = some ps → (∀ p ∈ acc, ∀ c ∈ p, letterB c = true) → (∀ p ∈ ps, ∀ c ∈ p, letterB c = true) ∧ ps.length = acc.length + r.length
 | [], acc, ps, h, ha => by
  obtain rfl := Option.some.inj h
  exact ⟨ha, rfl⟩
 | n :: r, acc, ps, h, ha => by
  unfold prefGo at h
  by_cases hc : 0 ≤ n.f1 ∧ n.f1 < (acc.length : Int) ∧ 0 ≤ n.f0 ∧ n.f0 ≤ 25
  ·
   rw [if_pos hc] at h
   obtain ⟨h1, h2⟩ := prefGo_ok r _ ps h (fun p hp c hcp => by
    rcases List.mem_append.1 hp with hp | hp
    ·
     exact ha p hp c hcp
    rw [List.mem_singleton.1 hp] at hcp
    rcases List.mem_append.1 hcp with hcp | hcp
    ·
     exact ha _ (getD_mem (by omega)) c hcp
    rw [List.mem_singleton.1 hcp]; exact letterB_of _ (by omega))
   exact ⟨h1, by rw [h2]; simp; omega⟩
  rw [if_neg hc] at h; cases h
theorem letter_last {p : Txt} (hw : wordL p = true) (h : p ≠ []) : UInt8.ofNat (97 + (ltrOf p).toNat) = p.getD (p.length - 1) 0 := by
 obtain ⟨h1, h2, h3⟩ := ltrOf_bd hw h
 have h4 := letter_bd ((wordL_iff.1 hw).1 _ (getLast_mem h))
 have e : 97 + (ltrOf p).toNat = (p.getD (p.length - 1) 0).toNat := by omega
 rw [e]; simp
theorem trN_get {P ws : List Txt} (i : Nat) (h : i < (trN P ws).length) : (trN P ws)[i] = mkN (ndL P ws (P.getD i [])) := by
 have h2 : i < P.length := by rwa [trN_length] at h
 rw [← rdN P ws i h2, rd_get _ i h]
theorem prefGo_tr {P : List Txt} (ws : List Txt) (hA : Asc P) (hC : Clo P) (hW : ∀ p ∈ P, wordL p = true) : ∀ (d i : Nat), i + d = P.length → 0 < i → prefGo ((trN P ws).drop i) (P.take i) = some P := by
 intro d
 induction d with
 | zero =>
  intro i h1 h2
  rw [List.drop_of_length_le (by rw [trN_length]; omega), List.take_of_length_le (by omega)]
  rfl
 | succ d ih =>
  intro i h1 h2
  have hi : i < P.length := by omega
  have hit : i < (trN P ws).length := by rw [trN_length]; exact hi
  have hne := clo_pos hA hC hi h2
  have hm := getD_mem hi
  obtain ⟨j1, j2⟩ := clo_parent hA hC hi h2
  obtain ⟨_, b1, b2⟩ := ltrOf_bd (hW _ hm) hne
  rw [List.drop_eq_getElem_cons hit, trN_get i hit]
  have hx : mkN (ndL P ws (P.getD i [])) = ⟨ltrOf (P.getD i []), (placeL P (P.getD i []).dropLast : Int), decide (P.getD i [] ∈ ws)⟩ := by unfold mkN ndL; rw [if_neg hne, if_neg hne]
  rw [hx]
  unfold prefGo
  have hl : (P.take i).length = i := by rw [List.length_take]; omega
  rw [if_pos ⟨Int.natCast_nonneg _, by show ((placeL P (P.getD i []).dropLast : Nat) : Int) < ((P.take i).length : Int); rw [hl]; exact Int.ofNat_lt.2 j1, b1, b2⟩]
  simp only [Int.toNat_natCast]
  have hg : (P.take i).getD (placeL P (P.getD i []).dropLast) [] = (P.getD i []).dropLast := by
   rw [getD_lt [] (by rw [hl]; exact j1), List.getElem_take, ← getD_lt [] (by omega), j2]
  rw [hg, letter_last (hW _ hm) hne, dropLast_getD _ hne, ← take_succ_getD [] hi]
  exact ih (i + 1) (by omega) (by omega)
theorem prefN_tr {ws : List Txt} (h : OkW ws) : prefN (trN (preL ws) ws) = some (preL ws) := by
 obtain ⟨z1, z2⟩ := clo_zero (asc_preL ws) (clo_preL ws)
 unfold prefN
 rw [trN_length, if_pos ⟨z1, h.pre⟩]
 have := prefGo_tr ws (asc_preL ws) (clo_preL ws) (fun p hp => preL_word h.word hp) ((preL ws).length - 1) 1 (by omega) (by omega)
 rw [show (preL ws).take 1 = [[]] from by rw [take_succ_getD [] z1, z2]; rfl] at this
 exact this
theorem trieOf_in (ws0 xs : List Txt) (w : Txt) (hw : w.length ≤ 12) (i : Nat) (hi : i ≤ 100000) (r : List Nd) (acc2 : List Txt) (hr : Ev (fun k => iF19.l0 k (ws0.map B) (acc2.map B) (xs.map B) (xs.length : Int) ((i + 1 : Nat) : Int)) r) :
  ∀ (d n : Nat) (acc : List Txt), n + d = w.length → acc ++ begF w (n + 1) d = acc2 → acc2.length ≤ 1000000 → Ev (fun k => iF19.l1 k (ws0.map B) (acc.map B) (B w) (xs.map B) (xs.length : Int) (i : Int) (w.length : Int) (n : Int)) r := by
 intro d
 induction d with
 | zero =>
  intro n acc h1 h2 h3
  rw [begF, List.append_nil] at h2
  subst h2
  refine Ev.step (fun k => iF19.l1.eq_2 ..) (Ev.ifF (by omega) ?_)
  rw [wrap64_succ i (by omega)]
  exact hr
 | succ d ih =>
  intro n acc h1 h2 h3
  have hl : acc.length ≤ 1000000 := by rw [← h2, List.length_append] at h3; omega
  refine Ev.step (fun k => iF19.l1.eq_2 ..) (Ev.ifT (by omega) ?_)
  rw [wrap64_succ n (by omega)]
  refine Ev.ifT (by omega) (Ev.ifT (by rw [size_B]; omega) (Ev.ifT (by rw [List.length_map]; omega) ?_))
  rw [extract_B, List.drop_zero, Int.toNat_natCast, Nat.sub_zero]
  have := ih (n + 1) (acc ++ [w.take (n + 1)]) (by omega) (by rw [← h2, begF]; simp) h3
  rw [List.map_append, List.map_singleton] at this
  exact this
theorem trieOf_out (ws0 xs : List Txt) (hl : xs.length ≤ 1000) (hw : ∀ w ∈ xs, w.length ≤ 12) (r : List Nd) (hr : Ev (fun k => iF19.l2 k (ws0.map B) ((preL xs).map B) ((preL xs).length : Int) 0 []) r) :
  ∀ (d i : Nat) (acc : List Txt), i + d = xs.length → acc ++ (xs.drop i).flatMap begs = [] :: xs.flatMap begs → Ev (fun k => iF19.l0 k (ws0.map B) (acc.map B) (xs.map B) (xs.length : Int) (i : Int)) r := by
 have hall := flatMap_begs_length xs hw
 have hpl := preL_length hw
 intro d
 induction d with
 | zero =>
  intro i acc h1 h2
  rw [List.drop_of_length_le (by omega), List.flatMap_nil, List.append_nil] at h2
  subst h2
  refine Ev.step (fun k => iF19.l0.eq_2 ..) (Ev.ifF (by omega) ?_)
  rw [set_eq _ (by rw [List.length_cons]; omega)]
  refine Ev.some_bind (Ev.ifT ?_ ?_)
  ·
   unfold SM.okL
   rw [Bool.and_eq_true, List.all_eq_true, decide_eq_true_eq]
   refine ⟨fun x hx => ?_, by rw [List.length_map]; show (preL xs).length ≤ _; omega⟩
   obtain ⟨y, hy, rfl⟩ := List.mem_map.1 hx
   have hy' : y ∈ preL xs := hy
   have : y.length ≤ 12 := by
    rcases mem_preL.1 hy' with rfl | ⟨w, hw', _, hp⟩
    ·
     simp
    exact Nat.le_trans hp.length_le (hw w hw')
   rw [decide_eq_true_eq, size_B]; omega
  rw [List.length_map]
  exact hr
 | succ d ih =>
  intro i acc h1 h2
  have hi : i < xs.length := by omega
  rw [drop_cons_getD [] hi, List.flatMap_cons, ← List.append_assoc] at h2
  refine Ev.step (fun k => iF19.l0.eq_2 ..) (Ev.ifT (by omega) (Ev.ifT (by omega) (Ev.ifT (by rw [List.length_map]; omega) ?_)))
  rw [rdB xs i hi, size_B]
  have hlen : (acc ++ begs (xs.getD i [])).length ≤ 1000000 := by
   have := congrArg List.length h2
   rw [List.length_append, List.length_cons] at this
   omega
  exact trieOf_in ws0 xs _ (hw _ (getD_mem hi)) i (by omega) r _ (ih (i + 1) _ (by omega) h2) (xs.getD i []).length 0 acc (by omega) (by rw [begs_begF]) hlen
theorem at_take {P : List Txt} (hA : Asc P) (q : Txt) (j : Nat) (hj : j < P.length) (hq : P.getD j [] = q) : ∀ n, n ≤ P.length → j < n → SM.at_ (List.take n (P.map B)) (B q) = (j : Int) := by
 intro n
 induction n with
 | zero => intro _ h; omega
 | succ n ih =>
  intro h1 h2
  have hn : n < P.length := by omega
  rw [← List.map_take, take_succ_getD [] hn, List.map_append, List.map_singleton]
  unfold SM.at_
  rw [List.reverse_append, List.reverse_singleton, List.singleton_append, SM.atR, data_B, data_B]
  by_cases e : P.getD n [] = q
  ·
   have : n = j := asc_inj hA hn hj (e.trans hq.symm)
   rw [if_pos e, List.length_reverse, List.length_map, List.length_take]; omega
  have hjn : j < n := by
   rcases Nat.lt_or_ge j n with h | h
   ·
    exact h
   have : j = n := by omega
   subst this; exact absurd hq e
  rw [if_neg e, List.map_take]
  exact ih (by omega) hjn
theorem trieOf_nodes {ws P : List Txt} (hs : Srt ws) (hA : Asc P) (hC : Clo P) (hW : ∀ p ∈ P, wordL p = true) (hP : P.length ≤ 100000) (hl : ws.length ≤ 100000) : ∀ (d i : Nat) (acc : List Nd), i + d = P.length → acc.length ≤ i →
  Ev (fun k => iF19.l2 k (ws.map B) (P.map B) (P.length : Int) (i : Int) acc) (acc ++ ((P.drop i).map fun p => mkN (ndL P ws p))) := by
 intro d
 induction d with
 | zero =>
  intro i acc h1 h2
  rw [List.drop_of_length_le (by omega), List.map_nil, List.append_nil]
  exact Ev.step (fun k => iF19.l2.eq_2 ..) (Ev.ifF (by omega) (Ev.now _))
 | succ d ih =>
  intro i acc h1 h2
  have hi : i < P.length := by omega
  have hm := getD_mem hi
  rw [drop_cons_getD [] hi, List.map_cons]
  refine Ev.step (fun k => iF19.l2.eq_2 ..) (Ev.ifT (by omega) (Ev.ifT (by omega) (Ev.ifT (by rw [List.length_map]; omega) ?_)))
  rw [rdB P i hi]
  obtain ⟨q, _, _, _, hq⟩ := search_ev ws (P.getD i []) (by omega) hs
  refine Ev.bind hq ?_
  have hcons : ∀ x : Nd, acc ++ (x :: (P.drop (i + 1)).map fun p => mkN (ndL P ws p)) = (acc ++ [x]) ++ (P.drop (i + 1)).map fun p => mkN (ndL P ws p) := fun x => by simp
  rw [hcons, toList_B]
  by_cases hp : P.getD i [] = []
  ·
   refine Ev.ifT hp (Ev.ifT (by omega) ?_)
   have hx : mkN (ndL P ws (P.getD i [])) = ⟨-1, -1, decide (P.getD i [] ∈ ws)⟩ := by unfold mkN ndL; rw [if_pos hp, if_pos hp]
   rw [hx, wrap64_succ i (by omega)]
   exact ih (i + 1) _ (by omega) (by simp; omega)
  have h0 : 0 < i := by
   rcases Nat.eq_zero_or_pos i with e | e
   ·
    rw [e, (clo_zero hA hC).2] at hp; exact absurd rfl hp
   exact e
  have hlen := List.length_pos_iff.2 hp
  have h12 := (wordL_iff.1 (hW _ hm)).2
  obtain ⟨j1, j2⟩ := clo_parent hA hC hi h0
  have hw1 : wrap64 (((B (P.getD i [])).size : Int) - 1) = ((P.getD i []).length - 1 : Nat) := by rw [size_B, wrap64_id (by omega) (by omega)]; omega
  rw [hw1]
  refine Ev.ifF hp (Ev.ifT (by omega) (Ev.ifT (by rw [size_B]; omega) (Ev.ifT (by rw [size_B]; omega) (Ev.ifT (by omega) ?_))))
  rw [extract_B, List.drop_zero, Int.toNat_natCast, Int.toNat_natCast, Nat.sub_zero, ← List.dropLast_eq_take, at_take hA _ _ (by omega) j2 (i + 1) (by omega) (by omega)]
  have hx : mkN (ndL P ws (P.getD i [])) = ⟨((bt (B (P.getD i [])) (((P.getD i []).length - 1 : Nat) : Int)) - 97) % 256, (placeL P (P.getD i []).dropLast : Int), decide (P.getD i [] ∈ ws)⟩ := by
   unfold mkN ndL
   rw [if_neg hp, if_neg hp, bt_B _ _ (by omega)]
   rfl
  rw [hx, wrap64_succ i (by omega)]
  exact ih (i + 1) _ (by omega) (by simp; omega)
theorem trieOf_srt {ws : List Txt} (hs : Srt ws) (hw : ∀ w ∈ ws, wordL w = true) (hl : ws.length ≤ 1000) : Ev (fun k => iF19.f k (ws.map B)) (trN (preL ws) ws) := by
 have hle : ∀ w ∈ ws, w.length ≤ 12 := fun w h => (wordL_iff.1 (hw w h)).2
 have hpl := preL_length hle
 have hn := trieOf_nodes hs (asc_preL ws) (clo_preL ws) (fun p hp => preL_word hw hp) (by omega) (by omega) (preL ws).length 0 [] (by omega) (by simp)
 rw [List.drop_zero, List.nil_append] at hn
 have e : (preL ws).map (fun p => mkN (ndL (preL ws) ws p)) = trN (preL ws) ws := by unfold trN nodesL; rw [List.map_map]; rfl
 rw [e] at hn
 unfold iF19.f
 rw [List.length_map]
 exact trieOf_out ws ws hl hle _ hn ws.length 0 [[]] (by omega) rfl
theorem trieOf_ev {ws : List Txt} (h : OkW ws) : Ev (fun k => iF19.f k (ws.map B)) (trN (preL ws) ws) := trieOf_srt (srt_asc h.asc) h.word (by have := h.len; omega)
theorem trN_set {ws : List Txt} : trN (preL ws) ws = trN (preL (setL ws)) (setL ws) := by
 have e : preL (setL ws) = preL ws := preL_congr fun w => mem_setL ws w
 rw [e]
 unfold trN nodesL
 rw [List.map_map, List.map_map]
 refine List.map_congr_left fun p _ => ?_
 show mkN (ndL (preL ws) ws p) = mkN (ndL (preL ws) (setL ws) p)
 unfold ndL
 rw [show decide (p ∈ ws) = decide (p ∈ setL ws) from decide_eq_decide.2 (mem_setL ws p).symm]
def wordsGo : List Nd → List Txt → List Txt
 | n :: r, p :: ps => if n.f2 = true then p :: wordsGo r ps else wordsGo r ps
 | _, _ => []
theorem wordsGo_mem : ∀ (N : List Nd) (ps : List Txt) (w : Txt), w ∈ wordsGo N ps → w ∈ ps
 | n :: r, p :: ps, w, h => by
  unfold wordsGo at h
  by_cases hf : n.f2 = true
  ·
   rw [if_pos hf] at h
   rcases List.mem_cons.1 h with e | h
   ·
    rw [e]; exact List.mem_cons_self
   exact List.mem_cons_of_mem _ (wordsGo_mem r ps w h)
  rw [if_neg hf] at h
  exact List.mem_cons_of_mem _ (wordsGo_mem r ps w h)
 | [], _, _, h => by simp [wordsGo] at h
 | _ :: _, [], _, h => by simp [wordsGo] at h
theorem wordsGo_len : ∀ (N : List Nd) (ps : List Txt), (wordsGo N ps).length ≤ N.length
 | n :: r, p :: ps => by
  have := wordsGo_len r ps
  unfold wordsGo
  by_cases hf : n.f2 = true
  ·
   rw [if_pos hf, List.length_cons, List.length_cons]; omega
  rw [if_neg hf, List.length_cons]; omega
 | [], _ => by simp [wordsGo]
 | _ :: _, [] => by simp [wordsGo]
theorem wordsGo_tr (P ws : List Txt) : ∀ Q : List Txt, wordsGo (Q.map fun p => mkN (ndL P ws p)) Q = Q.filter fun p => decide (p ∈ ws)
 | [] => rfl
 | q :: Q => by
  rw [List.map_cons, wordsGo, wordsGo_tr P ws Q, List.filter_cons]
  rfl
theorem words_loop (N : List Nd) (ps : List Txt) (hN : N.length ≤ 1000000) (hp : ps.length = N.length) : ∀ (d i : Nat) (acc : List Txt), i + d = N.length → acc.length ≤ i →
  Ev (fun k => iF10.l0 k (ps.map B) (acc.map B) N (N.length : Int) (i : Int)) ((acc ++ wordsGo (N.drop i) (ps.drop i)).map B) := by
 intro d
 induction d with
 | zero =>
  intro i acc h1 h2
  rw [List.drop_of_length_le (by omega)]
  exact Ev.step (fun k => iF10.l0.eq_2 ..) (Ev.ifF (by omega) (by simpa [wordsGo] using Ev.now _))
 | succ d ih =>
  intro i acc h1 h2
  have hi : i < N.length := by omega
  rw [List.drop_eq_getElem_cons hi, drop_cons_getD [] (show i < ps.length by omega), wordsGo]
  refine Ev.step (fun k => iF10.l0.eq_2 ..) (Ev.ifT (by omega) (Ev.ifT (by omega) (Ev.ifT (by omega) ?_)))
  rw [rd_get N i hi]
  by_cases hf : N[i].f2 = true
  ·
   rw [if_pos hf]
   refine Ev.ifT hf (Ev.ifT (by rw [List.length_map]; omega) (Ev.ifT (by rw [List.length_map]; omega) ?_))
   rw [rdB ps i (by omega), wrap64_succ i (by omega)]
   have := ih (i + 1) (acc ++ [ps.getD i []]) (by omega) (by simp; omega)
   rw [List.map_append (l₁ := acc), List.map_singleton, List.append_assoc] at this
   exact this
  rw [if_neg hf]
  refine Ev.ifF hf ?_
  rw [wrap64_succ i (by omega)]
  exact ih (i + 1) acc (by omega) (by omega)
theorem words_of {N : List Nd} {ps : List Txt} (h : prefN N = some ps) : N.length ≤ 481 ∧ ps.length = N.length ∧ (∀ p ∈ ps, ∀ c ∈ p, letterB c = true) ∧ Ev (fun k => iF10.f k N) ((wordsGo N ps).map B) := by
 have hp := prefixes_ev N
 rw [h] at hp
 unfold prefN at h
 by_cases hn : 1 ≤ N.length ∧ N.length ≤ 481
 ·
  rw [if_pos hn] at h
  obtain ⟨h1, h2⟩ := prefGo_ok _ _ _ h (by simp)
  rw [List.length_drop, List.length_singleton] at h2
  refine ⟨hn.2, by omega, h1, ?_⟩
  unfold iF10.f
  refine Ev.bind hp ?_
  exact words_loop N ps (by omega) (by omega) N.length 0 [] (by omega) (by simp)
 rw [if_neg hn] at h; cases h
theorem words_ev {ws : List Txt} (h : OkW ws) : Ev (fun k => iF10.f k (trN (preL ws) ws)) (ws.map B) := by
 obtain ⟨_, _, _, h4⟩ := words_of (prefN_tr h)
 have e : wordsGo (trN (preL ws) ws) (preL ws) = ws := by
  have : trN (preL ws) ws = (preL ws).map fun p => mkN (ndL (preL ws) ws p) := by unfold trN nodesL; rw [List.map_map]; rfl
  rw [this, wordsGo_tr, filter_preL h.asc]
 rwa [e] at h4
theorem isSorted_loop (ws : List Txt) (hl : ws.length ≤ 4611686018427387903) : ∀ (n : Nat), n < ws.length → ∃ b : Bool, (b = true ↔ ∀ j, j < n → ¬ ws.getD (j + 1) [] < ws.getD j []) ∧ Ev (fun k => xF36.l0 k (ws.map B) (n : Int)) b := by
 intro n
 induction n with
 | zero =>
  intro _
  exact ⟨true, by simp, Ev.step (fun k => xF36.l0.eq_2 ..) (Ev.ifF (by simp) (Ev.now _))⟩
 | succ n ih =>
  intro hn
  have hw : wrap64 (((n + 1 : Nat) : Int) - 1) = (n : Int) := by rw [wrap64_id (by omega) (by omega)]; omega
  by_cases hlt : ws.getD (n + 1) [] < ws.getD n []
  ·
   refine ⟨false, ?_, Ev.step (fun k => xF36.l0.eq_2 ..) (Ev.ifT (by omega) (Ev.ifT (by omega) (Ev.ifT (by rw [List.length_map]; omega) (Ev.ifT (by rw [hw]; omega) (Ev.ifT (by rw [hw, List.length_map]; omega) ?_)))))⟩
   ·
    simp only [Bool.false_eq_true, false_iff]
    exact fun h => h n (Nat.lt_succ_self n) hlt
   rw [hw, rdB ws (n + 1) hn, rdB ws n (by omega), less_eq, decide_eq_true hlt]
   exact Ev.some_bind (Ev.ifT rfl (Ev.now _))
  obtain ⟨b, hb, he⟩ := ih (by omega)
  refine ⟨b, hb.trans ⟨fun h j hj => ?_, fun h j hj => h j (by omega)⟩, Ev.step (fun k => xF36.l0.eq_2 ..) (Ev.ifT (by omega) (Ev.ifT (by omega) (Ev.ifT (by rw [List.length_map]; omega) (Ev.ifT (by rw [hw]; omega) (Ev.ifT (by rw [hw, List.length_map]; omega) ?_)))))⟩
  ·
   by_cases e : j = n
   ·
    rw [e]; exact hlt
   exact h j (by omega)
  rw [hw, rdB ws (n + 1) hn, rdB ws n (by omega), less_eq, decide_eq_false hlt]
  exact Ev.some_bind (Ev.ifF Bool.false_ne_true he)
theorem isSorted_ev (ws : List Txt) (hl : ws.length ≤ 4611686018427387903) : ∃ b : Bool, (b = true ↔ Srt ws) ∧ Ev (fun k => xF36.f k (ws.map B)) b := by
 unfold xF36.f
 rcases Nat.eq_zero_or_pos ws.length with h0 | h0
 ·
  refine ⟨true, ⟨fun _ j hj => by omega, fun _ => rfl⟩, ?_⟩
  rw [List.length_map, h0]
  exact Ev.step (fun k => xF36.l0.eq_2 ..) (Ev.ifF (by rw [wrap64_id (by omega) (by omega)]; omega) (Ev.now _))
 obtain ⟨b, hb, he⟩ := isSorted_loop ws hl (ws.length - 1) (by omega)
 refine ⟨b, hb.trans ⟨fun h j hj => h j (by omega), fun h j hj => h j (by omega)⟩, ?_⟩
 rw [List.length_map, show wrap64 ((ws.length : Int) - 1) = ((ws.length - 1 : Nat) : Int) from by rw [wrap64_id (by omega) (by omega)]; omega]
 exact he
theorem equal_loop (M N : List Nd) (hM : M.length ≤ 4611686018427387903) (he : M.length = N.length) : ∀ (d i : Nat), i + d = M.length → Ev (fun k => iF8.l0 k M N (M.length : Int) (i : Int)) (decide (M.drop i = N.drop i)) := by
 intro d
 induction d with
 | zero =>
  intro i h1
  refine Ev.step (fun k => iF8.l0.eq_2 ..) (Ev.ifF (by omega) ?_)
  rw [decide_eq_true (show M.drop i = N.drop i by rw [List.drop_of_length_le (by omega), List.drop_of_length_le (by omega)])]
  exact Ev.now _
 | succ d ih =>
  intro i h1
  refine Ev.step (fun k => iF8.l0.eq_2 ..) (Ev.ifT (by omega) (Ev.ifT (by omega) (Ev.ifT (by omega) (Ev.ifT (by omega) ?_))))
  rw [node_ne, rd_get M i (by omega), rd_get N i (by omega), List.drop_eq_getElem_cons (show i < M.length by omega), List.drop_eq_getElem_cons (show i < N.length by omega)]
  by_cases e : M[i] = N[i]
  ·
   refine Ev.ifF (by simp [e]) ?_
   rw [wrap64_succ i (by omega), show decide (M[i] :: M.drop (i + 1) = N[i] :: N.drop (i + 1)) = decide (M.drop (i + 1) = N.drop (i + 1)) from decide_eq_decide.2 ⟨fun h => (List.cons.inj h).2, fun h => by rw [e, h]⟩]
   exact ih (i + 1) (by omega)
  refine Ev.ifT (by simp [e]) ?_
  rw [show decide (M[i] :: M.drop (i + 1) = N[i] :: N.drop (i + 1)) = false from decide_eq_false fun h => e (List.cons.inj h).1]
  exact Ev.now _
theorem equal_ev (M N : List Nd) (hM : M.length ≤ 4611686018427387903) : Ev (fun k => iF8.f k M N) (decide (M = N)) := by
 unfold iF8.f
 by_cases he : M.length = N.length
 ·
  refine Ev.ifT (by omega) ?_
  have := equal_loop M N hM he M.length 0 (by omega)
  rwa [List.drop_zero, List.drop_zero] at this
 rw [decide_eq_false fun e => he (by rw [e])]
 exact Ev.ifF (by omega) (Ev.now _)
theorem isTrie_ev (N : List Nd) : ∃ b : Bool, (b = true ↔ IsTr N) ∧ Ev (fun k => iF15.f k N) b := by
 have hpre := prefixes_ev N
 have no : ∀ M : List Nd, Ev (fun k => iF15.j0 k true M) false := fun M => Ev.step (fun k => iF15.j0.eq_2 ..) (Ev.ifT rfl (Ev.now _))
 cases hp : prefN N with
 | none =>
  rw [hp] at hpre
  refine ⟨false, ?_, ?_⟩
  ·
   simp only [Bool.false_eq_true, false_iff]
   rintro ⟨ws, h, rfl⟩
   rw [prefN_tr h] at hp; cases hp
  unfold iF15.f
  exact Ev.bind hpre (Ev.ifF Bool.false_ne_true (no N))
 | some ps =>
  rw [hp] at hpre
  obtain ⟨w1, w2, w3, w4⟩ := words_of hp
  have hany : iF16.f (ps.map B) = some (decide (∃ p ∈ ps, 12 < p.length)) := by
   unfold iF16.f
   congr 1
   rw [Bool.eq_iff_iff, List.any_eq_true, decide_eq_true_eq]
   constructor
   ·
    rintro ⟨x, hx, e⟩
    obtain ⟨y, hy, rfl⟩ := List.mem_map.1 hx
    refine ⟨y, hy, ?_⟩
    unfold iF16.p at e
    rw [size_B, decide_eq_true_eq] at e
    omega
   rintro ⟨y, hy, e⟩
   refine ⟨B y, List.mem_map.2 ⟨y, hy, rfl⟩, ?_⟩
   unfold iF16.p
   rw [size_B, decide_eq_true_eq]
   omega
  by_cases hlong : ∃ p ∈ ps, 12 < p.length
  ·
   rw [decide_eq_true hlong] at hany
   refine ⟨false, ?_, ?_⟩
   ·
    simp only [Bool.false_eq_true, false_iff]
    rintro ⟨ws, h, rfl⟩
    rw [prefN_tr h] at hp
    obtain rfl := Option.some.inj hp
    obtain ⟨p, hpm, hpl⟩ := hlong
    have := (wordL_iff.1 (preL_word h.word hpm)).2
    omega
   unfold iF15.f
   refine Ev.bind hpre (Ev.ifT rfl ?_)
   show Ev (fun k => (iF16.f (ps.map B)).bind _) false
   rw [hany]
   exact Ev.some_bind (no N)
  rw [decide_eq_false hlong] at hany
  have hword : ∀ w ∈ wordsGo N ps, wordL w = true := fun w hw => by
   have hm := wordsGo_mem N ps w hw
   refine wordL_iff.2 ⟨w3 w hm, ?_⟩
   rcases Nat.lt_or_ge 12 w.length with h | h
   ·
    exact absurd ⟨w, hm, h⟩ hlong
   exact h
  have hwl := wordsGo_len N ps
  have hcase : ∀ b : Bool, Ev (fun k => iF15.j0 k false N) b → Ev (fun k => iF15.f k N) b := fun b hb => by
   unfold iF15.f
   refine Ev.bind hpre (Ev.ifT rfl ?_)
   show Ev (fun k => (iF16.f (ps.map B)).bind _) b
   rw [hany]
   exact Ev.some_bind hb
  have hval : ∀ ws, OkW ws → N = trN (preL ws) ws → wordsGo N ps = ws := fun ws h e => by
   subst e
   rw [prefN_tr h] at hp
   obtain rfl := Option.some.inj hp
   have : trN (preL ws) ws = (preL ws).map fun p => mkN (ndL (preL ws) ws p) := by unfold trN nodesL; rw [List.map_map]; rfl
   rw [this, wordsGo_tr, filter_preL h.asc]
  by_cases h40 : (wordsGo N ps).length ≤ 40
  rotate_left
  ·
   refine ⟨false, ?_, hcase _ (Ev.step (fun k => iF15.j0.eq_2 ..) (Ev.ifF Bool.false_ne_true (Ev.bind w4 (Ev.ifF (by rw [List.length_map]; omega) (Ev.now _)))))⟩
   simp only [Bool.false_eq_true, false_iff]
   rintro ⟨ws, h, e⟩
   rw [hval ws h e] at h40
   exact h40 h.len
  obtain ⟨b, hb, hsv⟩ := isSorted_ev (wordsGo N ps) (by omega)
  by_cases hs : Srt (wordsGo N ps)
  ·
   have hbt := hb.2 hs
   subst hbt
   refine ⟨decide (trN (preL (wordsGo N ps)) (wordsGo N ps) = N), ?_, hcase _ ?_⟩
   ·
    rw [decide_eq_true_eq]
    constructor
    ·
     intro e
     refine ⟨setL (wordsGo N ps), ⟨asc_setL _, Nat.le_trans (setL_length_le _) h40, fun w hw => hword w ((mem_setL _ w).1 hw)⟩, ?_⟩
     rw [← trN_set, e]
    rintro ⟨ws, h, e⟩
    rw [hval ws h e, e]
   refine Ev.step (fun k => iF15.j0.eq_2 ..) (Ev.ifF Bool.false_ne_true (Ev.bind w4 (Ev.ifT (by rw [List.length_map]; omega) (Ev.bind hsv (Ev.ifT rfl (Ev.bind (trieOf_srt hs hword (by omega)) (Ev.bind (equal_ev _ _ ?_) (Ev.now _))))))))
   rw [trN_length]
   have := preL_length (ws := wordsGo N ps) (fun w hw => (wordL_iff.1 (hword w hw)).2)
   omega
  have hbf : b = false := by
   cases b with
   | false => rfl
   | true => exact absurd (hb.1 rfl) hs
  subst hbf
  refine ⟨false, ?_, hcase _ (Ev.step (fun k => iF15.j0.eq_2 ..) (Ev.ifF Bool.false_ne_true (Ev.bind w4 (Ev.ifT (by rw [List.length_map]; omega) (Ev.bind hsv (Ev.ifF Bool.false_ne_true (Ev.now _)))))))⟩
  simp only [Bool.false_eq_true, false_iff]
  rintro ⟨ws, h, e⟩
  exact hs (by rw [hval ws h e]; exact srt_asc h.asc)
theorem eqNode_self (a b : Int) (c : Bool) : wF21.f a b c a b c = some true := by
 unfold wF21.f
 rw [if_pos rfl, if_pos rfl, if_neg (by simp)]
theorem eqNodeS_loop (N : List Nd) (hN : N.length ≤ 4611686018427387903) : ∀ (d i : Nat), i + d = N.length → Ev (fun k => wF22.l0 k N N (i : Int)) true := by
 intro d
 induction d with
 | zero => intro i h; exact Ev.step (fun k => wF22.l0.eq_2 ..) (Ev.ifF (by omega) (Ev.now _))
 | succ d ih =>
  intro i h
  refine Ev.step (fun k => wF22.l0.eq_2 ..) (Ev.ifT (by omega) (Ev.ifT (by omega) (Ev.ifT (by omega) ?_)))
  rw [eqNode_self]
  refine Ev.some_bind (Ev.ifT rfl ?_)
  rw [wrap64_succ i (by omega)]
  exact ih (i + 1) (by omega)
theorem eqTrie_ev (N : List Nd) (hN : N.length ≤ 4611686018427387903) : Ev (fun k => wF24.f k N N) true := by
 unfold wF24.f wF22.f
 exact Ev.bind (f := fun k t => if t = true then some true else some false) (Ev.ifT rfl (eqNodeS_loop N hN N.length 0 (by omega))) (Ev.ifT rfl (Ev.now _))
def toN (l : List S57) : List Nd := l.map fun x => ⟨x.f0, x.f1, x.f2⟩
theorem toN_length (l : List S57) : (toN l).length = l.length := by simp [toN]
theorem szTrie_eq (l : List S57) (h : l.length ≤ 9223372036854775807) : wF31.f l 1048576 = some (if l.length ≤ 1048576 then 1048576 - (l.length : Int) else -1) := by
 unfold wF31.f wF30.f
 rw [wrap64_id (by omega) (by omega)]
 by_cases hs : l.length ≤ 1048576
 ·
  rw [if_neg (by omega), if_pos hs, Option.bind_some, if_neg (by omega)]
 rw [if_pos (by omega), if_neg hs, Option.bind_some, if_pos (by omega)]
theorem toNodeS_loop (l : List S57) (hl : l.length ≤ 1048576) : ∀ (d i : Nat), i + d = l.length → Ev (fun k => wF33.l0 k l ((toN l).take i ++ List.replicate ((toN l).length - i) z53) (i : Int)) (toN l) := by
 intro d
 induction d with
 | zero =>
  intro i h
  rw [List.take_of_length_le (by rw [toN_length]; omega), show (toN l).length - i = 0 from by rw [toN_length]; omega, List.replicate_zero, List.append_nil]
  exact Ev.step (fun k => wF33.l0.eq_2 ..) (Ev.ifF (by omega) (Ev.now _))
 | succ d ih =>
  intro i h
  have hi : i < l.length := by omega
  have hi2 : i < (toN l).length := by rw [toN_length]; exact hi
  have hlen : ((toN l).take i ++ List.replicate ((toN l).length - i) z53).length = l.length := by
   rw [List.length_append, List.length_take, List.length_replicate, toN_length]; omega
  refine Ev.step (fun k => wF33.l0.eq_2 ..) (Ev.ifT (by omega) (Ev.ifT (by omega) ?_))
  unfold wF32.f
  refine Ev.some_bind (Ev.ifT (by rw [hlen]; omega) ?_)
  have hx : (⟨(rd_T57 l (i : Int)).f0, (rd_T57 l (i : Int)).f1, (rd_T57 l (i : Int)).f2⟩ : Nd) = (toN l).getD i z53 := by
   unfold rd_T57 toN
   rw [Int.toNat_natCast, getD_lt _ hi, getD_lt _ (by simpa using hi), List.getElem_map]
  rw [hx, Int.toNat_natCast, fill_set _ _ _ hi2, wrap64_succ i (by omega)]
  exact ih (i + 1) (by omega)
theorem toTrie_ev (l : List S57) (hl : l.length ≤ 1048576) : Ev (fun k => wF34.f k l) (toN l) := by
 unfold wF34.f wF33.f
 refine Ev.bind (f := fun k t => some t) (Ev.ifT (by omega) (Ev.ifT (by omega) ?_)) (Ev.now _)
 have := toNodeS_loop l hl l.length 0 (by omega)
 rw [List.take_zero, List.nil_append, toN_length, Nat.sub_zero] at this
 exact this
theorem trie_both (N : List Nd) : (IsTr N ∧ Ev (fun k => sF51.f k N) true ∧ Ev (fun k => iF15.f k N) true) ∨ (¬ IsTr N ∧ Ev (fun k => sF51.f k N) false ∧ Ev (fun k => iF15.f k N) false) := by
 obtain ⟨b1, c1, e1⟩ := l2Trie_ev N
 obtain ⟨b2, c2, e2⟩ := isTrie_ev N
 by_cases h : IsTr N
 ·
  obtain rfl := c1.2 h
  obtain rfl := c2.2 h
  exact .inl ⟨h, e1, e2⟩
 cases b1 with
 | true => exact absurd (c1.1 rfl) h
 | false =>
  cases b2 with
  | true => exact absurd (c2.1 rfl) h
  | false => exact .inr ⟨h, e1, e2⟩
theorem filt_cons_of {α : Type} {f : α → Option Bool} {x : α} {r ys : List α} {b : Bool} (h1 : f x = some b) (h2 : filt f r = some ys) : filt f (x :: r) = some (if b = true then x :: ys else ys) := by
 obtain ⟨q, hq, rfl⟩ := filt_some h2
 rw [filt_of (fun y => (f y).getD false) (fun y hy => by
  rcases List.mem_cons.1 hy with rfl | hy
  ·
   rw [h1]; rfl
  rw [hq y hy]; rfl), List.filter_cons]
 have e : (r.filter fun y => (f y).getD false) = r.filter q := List.filter_congr fun y hy => by rw [hq y hy]; rfl
 rw [e, h1]
 cases b <;> rfl
theorem filtB_ev (f : Nat → ByteArray → Option Bool) : ∀ (ws : List Txt) (q : Txt → Bool), (∀ w ∈ ws, Ev (fun k => f k (B w)) (q w)) → Ev (fun k => filt (f k) (ws.map B)) ((ws.filter q).map B)
 | [], q, _ => Ev.now _
 | w :: r, q, h => by
  obtain ⟨K1, h1⟩ := h w (by simp)
  obtain ⟨K2, h2⟩ := filtB_ev f r q fun x hx => h x (List.mem_cons_of_mem _ hx)
  refine ⟨max K1 K2, fun k hk => ?_⟩
  have a1 := h1 k (by omega)
  have a2 := h2 k (by omega)
  show filt (f k) (B w :: r.map B) = _
  rw [filt_cons_of a1 a2, List.filter_cons]
  cases q w <;> rfl
theorem markText_loop : ∀ (d n : Nat) (acc : ByteArray), n < 10 ^ d → acc.size + d ≤ 4611686018427387903 → n ≤ 4611686018427387903 → ∃ m, Ev (fun k => wF28.l0 k (n : Int) acc) m := by
 intro d
 induction d with
 | zero =>
  intro n acc h1 h2 h3
  have h0 : n = 0 := by simpa using h1
  subst h0
  exact ⟨_, Ev.step (fun k => wF28.l0.eq_2 ..) (Ev.ifF (by omega) (Ev.ifT (by omega) (Ev.now _)))⟩
 | succ d ih =>
  intro n acc h1 h2 h3
  by_cases h0 : n = 0
  ·
   subst h0
   exact ⟨_, Ev.step (fun k => wF28.l0.eq_2 ..) (Ev.ifF (by omega) (Ev.ifT (by omega) (Ev.now _)))⟩
  have hd : wrap64 (Int.tdiv (n : Int) 10) = ((n / 10 : Nat) : Int) := by
   rw [Int.tdiv_eq_ediv_of_nonneg (by omega), wrap64_id (by omega) (by omega)]; rfl
  have hsz : ∀ x : Int, (strOfNums [x]).size = 1 := fun x => by simp [strOfNums, ← ByteArray.size_data]
  obtain ⟨m, hm⟩ := ih (n / 10) (strOfNums [(wrap64 (48 + (Int.tmod (n : Int) 10))) % 256] ++ acc) (by rw [Nat.pow_succ] at h1; omega) (by rw [ByteArray.size_append, hsz]; omega) (by omega)
  refine ⟨m, Ev.step (fun k => wF28.l0.eq_2 ..) (Ev.ifT (by omega) (Ev.some_bind (Ev.ifT (by rw [hsz]; omega) ?_)))⟩
  simpa only [hd] using hm
theorem markText_ex (n : Nat) (h0 : 0 < n) (h : n < 10 ^ 18) : ∃ m, Ev (fun k => wF28.f k (n : Int)) m := by
 obtain ⟨m, hm⟩ := markText_loop 18 n ⟨#[]⟩ h (by decide) (by omega)
 exact ⟨m, Ev.congr (fun k => by unfold wF28.f; rw [if_neg (by omega)]) hm⟩
open Classical in
noncomputable def mt (n : Nat) : ByteArray := if h : ∃ m, Ev (fun k => wF28.f k (n : Int)) m then Classical.choose h else ⟨#[]⟩
theorem mt_ev (n : Nat) (h0 : 0 < n) (h : n < 10 ^ 18) : Ev (fun k => wF28.f k (n : Int)) (mt n) := by
 have hx := markText_ex n h0 h
 unfold mt
 rw [dif_pos hx]
 exact Classical.choose_spec hx
theorem eqStringS_loop (l m : List Txt) (hl : l.length ≤ 4611686018427387903) (h : l.length = m.length) : ∀ (d n : Nat), n + d = l.length → Ev (fun k => wF23.l0 k (l.map B) (m.map B) (n : Int)) (decide (l.drop n = m.drop n)) := by
 intro d
 induction d with
 | zero =>
  intro n hn
  refine Ev.step (fun k => wF23.l0.eq_2 ..) (Ev.ifF (by simp; omega) ?_)
  rw [List.drop_of_length_le (by omega), List.drop_of_length_le (by omega)]; simpa using Ev.now true
 | succ d ih =>
  intro n hn
  have h1 : n < l.length := by omega
  refine Ev.step (fun k => wF23.l0.eq_2 ..) (Ev.ifT (by simp; omega) (Ev.ifT (by omega) (Ev.ifT (by simp; omega) ?_)))
  rw [drop_cons_getD [] h1, drop_cons_getD [] (show n < m.length from by omega)]
  simp only [rdB l n h1, rdB m n (by omega), toList_B]
  by_cases e : l.getD n [] = m.getD n []
  ·
   refine Ev.ifT e ?_
   simpa only [wrap64_succ n (by omega), e, List.cons.injEq, true_and] using ih (n + 1) (by omega)
  refine Ev.ifF e ?_
  simpa only [e, List.cons.injEq, false_and, decide_false] using Ev.now false
theorem eqStringS_ev (l : List ByteArray) (hl : l.length ≤ 4611686018427387903) : Ev (fun k => wF23.f k l l) true := by
 obtain ⟨l, rfl⟩ := exBs l
 refine Ev.congr (fun k => by unfold wF23.f; rw [if_pos (by rfl)]) ?_
 simpa using eqStringS_loop l l (by simpa using hl) rfl l.length 0 (by omega)
noncomputable def marksT (n : Nat) (l : List ByteArray) : List ByteArray := (List.range n).map (fun j : Nat => mt (j + 1)) ++ l.drop n
theorem marksT_length (n : Nat) (l : List ByteArray) (h : n ≤ l.length) : (marksT n l).length = l.length := by simp [marksT]; omega
theorem marksT_set (n : Nat) (l : List ByteArray) (h : n < l.length) : (marksT n l).set n (mt (n + 1)) = marksT (n + 1) l := by
 unfold marksT
 rw [List.set_append_right _ _ (by simp), show ((List.range n).map fun j : Nat => mt (j + 1)).length = n from by simp, Nat.sub_self, drop_cons_getD ByteArray.empty h, List.set_cons_zero, List.range_succ, List.map_append, List.append_assoc]
 rfl
theorem markStringS_loop (l : List ByteArray) (hl : l.length ≤ 1000000000) : ∀ (d n : Nat), n + d = l.length → Ev (fun k => wF27.l0 k (marksT n l) ((n : Int) + 1) (n : Int)) ((l.length : Int) + 1, marksT l.length l) := by
 intro d
 induction d with
 | zero =>
  intro n hn
  refine Ev.step (fun k => wF27.l0.eq_2 ..) (Ev.ifF (by rw [marksT_length n l (by omega)]; omega) ?_)
  rw [show n = l.length from by omega]; exact Ev.now _
 | succ d ih =>
  intro n hn
  refine Ev.step (fun k => wF27.l0.eq_2 ..) (Ev.ifT (by rw [marksT_length n l (by omega)]; omega) (Ev.bind (mt_ev (n + 1) (by omega) (by omega)) (Ev.ifT (by omega) ?_)))
  have := ih (n + 1) (by omega)
  rw [← marksT_set n l (by omega)] at this
  rw [show wrap64 ((n : Int) + 1 + 1) = ((n + 1 : Nat) : Int) + 1 from by rw [wrap64_id (by omega) (by omega)]; omega]
  simpa only [Int.toNat_natCast, wrap64_succ n (by omega)] using this
theorem markStringS_ev (l : List ByteArray) (hl : l.length ≤ 1000000000) : Ev (fun k => wF27.f k l 1) ((l.length : Int) + 1, marksT l.length l) := by
 have := markStringS_loop l hl l.length 0 (by omega)
 simpa [wF27.f, marksT] using this
theorem marksT_rd (n : Nat) (l : List ByteArray) (j : Nat) (h : j < n) : rdOf ByteArray.empty (marksT n l) (j : Int) = mt (j + 1) := by
 simp [marksT, rdOf, List.getElem?_append, h]
theorem heldStringS_loop (l : List ByteArray) (hl : l.length ≤ 1000000000) : ∀ (d n : Nat), n + d = l.length → Ev (fun k => wF25.l0 k (marksT l.length l) ((n : Int) + 1) (n : Int)) ((l.length : Int) + 1) := by
 intro d
 induction d with
 | zero =>
  intro n hn
  refine Ev.step (fun k => wF25.l0.eq_2 ..) (Ev.ifF (by rw [marksT_length _ l (by omega)]; omega) ?_)
  rw [show n = l.length from by omega]; exact Ev.now _
 | succ d ih =>
  intro n hn
  refine Ev.step (fun k => wF25.l0.eq_2 ..) (Ev.ifT (by rw [marksT_length _ l (by omega)]; omega) (Ev.ifT (by omega) (Ev.bind (mt_ev (n + 1) (by omega) (by omega)) (Ev.ifT (by rw [marksT_rd _ _ _ (by omega)]) ?_))))
  rw [show wrap64 ((n : Int) + 1 + 1) = ((n + 1 : Nat) : Int) + 1 from by rw [wrap64_id (by omega) (by omega)]; omega]
  simpa only [wrap64_succ n (by omega)] using ih (n + 1) (by omega)
theorem heldStringS_ev (l : List ByteArray) (hl : l.length ≤ 1000000000) : Ev (fun k => wF25.f k (marksT l.length l) 1) ((l.length : Int) + 1) := by
 simpa [wF25.f] using heldStringS_loop l hl l.length 0 (by omega)
def mkNode (j : Nat) : Nd := ⟨3 * (j : Int) + 1, 3 * (j : Int) + 2, true⟩
def marksN (n : Nat) (l : List Nd) : List Nd := (List.range n).map mkNode ++ l.drop n
theorem marksN_length (n : Nat) (l : List Nd) (h : n ≤ l.length) : (marksN n l).length = l.length := by simp [marksN]; omega
theorem marksN_set (n : Nat) (l : List Nd) (h : n < l.length) : (marksN n l).set n (mkNode n) = marksN (n + 1) l := by
 unfold marksN
 rw [List.set_append_right _ _ (by simp), show ((List.range n).map mkNode).length = n from by simp, Nat.sub_self, drop_cons_getD z53 h, List.set_cons_zero, List.range_succ, List.map_append, List.append_assoc]
 rfl
theorem rdN_set (l : List Nd) (n : Nat) (h : n < l.length) (v : Nd) : rd_T53 (l.set n v) (n : Int) = v := by
 rw [rd_get _ n (by rw [List.length_set]; exact h), List.getElem_set_self]
theorem three_mod (n : Nat) (h : n ≤ 1000000000) : (Int.tmod (wrap64 ((wrap64 ((3 * (n : Int) + 1) + 1)) + 1)) 3 == 0) = true := by
 rw [wrap64_id (x := 3 * (n : Int) + 1 + 1) (by omega) (by omega), wrap64_id (by omega) (by omega), beq_iff_eq, Int.tmod_eq_emod_of_nonneg (by omega)]
 omega
theorem markNodeS_loop (l : List Nd) (hl : l.length ≤ 1000000000) : ∀ (d n : Nat), n + d = l.length → Ev (fun k => wF26.l0 k (marksN n l) (3 * (n : Int) + 1) (n : Int)) (3 * (l.length : Int) + 1, marksN l.length l) := by
 intro d
 induction d with
 | zero =>
  intro n hn
  refine Ev.step (fun k => wF26.l0.eq_2 ..) (Ev.ifF (by rw [marksN_length n l (by omega)]; omega) ?_)
  rw [show n = l.length from by omega]; exact Ev.now _
 | succ d ih =>
  intro n hn
  have h1 : n < (marksN n l).length := by rw [marksN_length n l (by omega)]; omega
  refine Ev.step (fun k => wF26.l0.eq_2 ..) (Ev.ifT (by omega) (Ev.ifT (by omega) (Ev.some_bind (Ev.some_bind ?_))))
  have := ih (n + 1) (by omega)
  rw [← marksN_set n l (by omega)] at this
  rw [Int.toNat_natCast]
  rw [rdN_set _ n h1, rdN_set _ n (by rw [List.length_set]; exact h1), List.set_set, List.set_set, three_mod n (by omega)]
  rw [show wrap64 ((wrap64 ((wrap64 (3 * (n : Int) + 1 + 1)) + 1)) + 1) = 3 * ((n + 1 : Nat) : Int) + 1 from by rw [wrap64_id (x := 3 * (n : Int) + 1 + 1) (by omega) (by omega), wrap64_id (x := 3 * (n : Int) + 1 + 1 + 1) (by omega) (by omega), wrap64_id (by omega) (by omega)]; omega, wrap64_succ n (by omega), show wrap64 (3 * (n : Int) + 1 + 1) = 3 * (n : Int) + 2 from by rw [wrap64_id (by omega) (by omega)]; omega]
  exact this
theorem markTrie_ev (l : List Nd) (hl : l.length ≤ 1000000000) : Ev (fun k => wF29.f k l 1) (3 * (l.length : Int) + 1, marksN l.length l) := by
 have := markNodeS_loop l hl l.length 0 (by omega)
 unfold wF29.f wF26.f
 exact Ev.bind this (Ev.now _)
end Go.Proofs.YtjpepfdpihojfaaGreatDoor.L
namespace Go.Proofs.YtjpepfdpihojfaaGreatDoor.M
theorem okFilter {ws : List Txt} (h : OkW ws) (p : Txt → Bool) : OkW (ws.filter p) := ⟨h.asc.filter _, Nat.le_trans (List.length_filter_le _ _) h.len, fun w hw => h.word w (List.mem_filter.1 hw).1⟩
end Go.Proofs.YtjpepfdpihojfaaGreatDoor.M
namespace Go.Proofs.YtjpepfdpihojfaaGreatDoor.L
open Go.RowKit Go.Proofs.YtjpepfdpihojfaaGreatDoor.P Go.Proofs.YtjpepfdpihojfaaGreatDoor.M Go.Proofs.YtjpepfdpihojfaaGreatDoorW.PrintWords Go.Proofs.YtjpepfdpihojfaaGreatDoorW.PrintLast Go.Proofs.YtjpepfdpihojfaaGreatDoorW.PrintMore
def sgn (c : UInt8) : Bool := c == 63 || c == 42 || letterB c
def pat (l : Txt) : Bool := l.all sgn && decide (l.length ≤ 14)
theorem sgn_63 (c : UInt8) (h : (c.toNat : Int) = 63) : sgn c = true := by
 have : c = 63 := UInt8.toNat_inj.1 (by show c.toNat = 63; omega)
 subst this; rfl
theorem sgn_42 (c : UInt8) (h : (c.toNat : Int) = 42) : sgn c = true := by
 have : c = 42 := UInt8.toNat_inj.1 (by show c.toNat = 42; omega)
 subst this; rfl
theorem sgn_else (c : UInt8) (h1 : ¬ (c.toNat : Int) = 63) (h2 : ¬ (c.toNat : Int) = 42) : sgn c = letterB c := by
 have a1 : (c == 63) = false := beq_eq_false_iff_ne.2 (fun e => h1 (by rw [e]; rfl))
 have a2 : (c == 42) = false := beq_eq_false_iff_ne.2 (fun e => h2 (by rw [e]; rfl))
 unfold sgn
 rw [a1, a2]; rfl
theorem l6Pattern_loop (l : Txt) (hl : l.length ≤ 4611686018427387903) : ∀ (d n : Nat), n + d = l.length → Ev (fun k => sF55.l0 k (B l) (n : Int)) ((l.drop n).all sgn && decide (l.length ≤ 14)) := by
 have last : ∀ n : Nat, Ev (fun k => sF55.j1 k (B l) (n : Int) false) (decide (l.length ≤ 14)) := by
  intro n
  refine Ev.step (fun k => sF55.j1.eq_2 ..) (Ev.ifF (by simp) ?_)
  have : decide (((B l).size : Int) ≤ 14) = decide (l.length ≤ 14) := by simp; omega
  rw [this]; exact Ev.now _
 intro d
 induction d with
 | zero =>
  intro n hn
  refine Ev.step (fun k => sF55.l0.eq_2 ..) (Ev.ifF (by simp; omega) ?_)
  rw [List.drop_of_length_le (by omega)]; simpa using last n
 | succ d ih =>
  intro n hn
  have h1 : n < l.length := by omega
  refine Ev.step (fun k => sF55.l0.eq_2 ..) (Ev.ifT (by simp; omega) ?_)
  rw [drop_cons_getD 0 h1]
  by_cases h14 : n ≤ 14
  rotate_left
  ·
   rw [show decide ((n : Int) ≤ 14) = false from by simp; omega]
   have : ((l.getD n 0 :: l.drop (n + 1)).all sgn && decide (l.length ≤ 14)) = decide (l.length ≤ 14) := by
    have : decide (l.length ≤ 14) = false := by simp; omega
    rw [this]; simp
   rw [this]; exact last n
  rw [show decide ((n : Int) ≤ 14) = true from by simp; omega]
  refine Ev.step (fun k => sF55.j1.eq_2 ..) (Ev.ifT rfl (Ev.ifT (by omega) (Ev.ifT (by simp; omega) ?_)))
  simp only [bt_B l n h1]
  have tl := ih (n + 1) (by omega)
  by_cases c63 : ((l.getD n 0).toNat : Int) = 63
  ·
   refine Ev.ifT c63 ?_
   simpa only [wrap64_succ n (by omega), List.all_cons, sgn_63 _ c63, Bool.true_and] using tl
  refine Ev.ifF c63 ?_
  by_cases c42 : ((l.getD n 0).toNat : Int) = 42
  ·
   refine Ev.ifT c42 ?_
   simpa only [wrap64_succ n (by omega), List.all_cons, sgn_42 _ c42, Bool.true_and] using tl
  refine Ev.ifF c42 ?_
  by_cases ha : ((l.getD n 0).toNat : Int) < 97
  ·
   refine Ev.ifT ha ?_
   have : letterB (l.getD n 0) = false := by simp only [letterB, decide_eq_false_iff_not]; omega
   simpa only [List.all_cons, sgn_else _ c63 c42, this, Bool.false_and] using Ev.now false
  refine Ev.ifF ha ?_
  by_cases hz : ((l.getD n 0).toNat : Int) > 122
  ·
   refine Ev.ifT hz ?_
   have : letterB (l.getD n 0) = false := by simp only [letterB, decide_eq_false_iff_not]; omega
   simpa only [List.all_cons, sgn_else _ c63 c42, this, Bool.false_and] using Ev.now false
  refine Ev.ifF hz ?_
  have : letterB (l.getD n 0) = true := by simp only [letterB, decide_eq_true_eq]; omega
  simpa only [wrap64_succ n (by omega), List.all_cons, sgn_else _ c63 c42, this, Bool.true_and] using tl
theorem l6Pattern_ev (l : Txt) (hl : l.length ≤ 4611686018427387903) : Ev (fun k => sF55.f k (B l)) (pat l) := by
 simpa [sF55.f, pat] using l6Pattern_loop l hl l.length 0 (by omega)
theorem areLettersP_eq (l : List UInt8) (hl : l.length ≤ 9223372036854775807) : iF11.f (B l) = some (l.all letterB) := by
 unfold iF11.f
 rw [if_pos (by simpa using hl), data_B]
 rfl
theorem keep_all : ∀ l : Txt, (l.filter iF14.keep).all letterB = l.all sgn
 | [] => rfl
 | c :: l => by
  rw [List.filter_cons, List.all_cons, ← keep_all l]
  by_cases h1 : c = 63
  ·
   subst h1; rfl
  by_cases h2 : c = 42
  ·
   subst h2; rfl
  have hk : iF14.keep c = true := by
   unfold iF14.keep
   rw [Bool.and_eq_true, bne_iff_ne, bne_iff_ne]; exact ⟨h2, h1⟩
  rw [if_pos hk, List.all_cons, sgn_else c (fun e => h1 (UInt8.toNat_inj.1 (by show c.toNat = 63; omega))) (fun e => h2 (UInt8.toNat_inj.1 (by show c.toNat = 42; omega)))]
theorem isPattern_eq (l : Txt) : iF14.f (B l) = some (pat l) := by
 unfold iF14.f pat
 by_cases h : l.length ≤ 14
 ·
  rw [if_pos (by simpa using h)]
  have e : iF14.strip (B l) = B (l.filter iF14.keep) := by
   unfold iF14.strip
   rw [data_B]; rfl
  have hl := List.length_filter_le iF14.keep l
  rw [e, areLettersP_eq _ (by omega), keep_all]
  simp [h]
 rw [if_neg (by simpa using h)]; simp [h]
end Go.Proofs.YtjpepfdpihojfaaGreatDoor.L
namespace Go.Proofs.YtjpepfdpihojfaaGreatDoor.L
open Go.RowKit Go.Proofs.YtjpepfdpihojfaaGreatDoor.P Go.Proofs.YtjpepfdpihojfaaGreatDoor.M Go.Proofs.YtjpepfdpihojfaaGreatDoorW.PrintWords Go.Proofs.YtjpepfdpihojfaaGreatDoorW.PrintLast Go.Proofs.YtjpepfdpihojfaaGreatDoorW.PrintMore
namespace Fit
def val (c : UInt8) (w : Txt) (row : List Bool) (prev : Bool) (k : Nat) : Bool :=
 if (c.toNat : Int) = 42 then row.getD k false || (decide (0 < k) && prev) else decide (0 < k) && (row.getD (k - 1) false && (decide ((c.toNat : Int) = 63) || decide ((c.toNat : Int) = ((w.getD (k - 1) 0).toNat : Int))))
def rowN (c : UInt8) (w : Txt) (row : List Bool) : Nat → List Bool
 | 0 => []
 | k + 1 => rowN c w row k ++ [val c w row ((rowN c w row k).getD (k - 1) false) k]
theorem rowN_length (c : UInt8) (w : Txt) (row : List Bool) : ∀ k, (rowN c w row k).length = k
 | 0 => rfl
 | k + 1 => by rw [rowN, List.length_append, rowN_length c w row k]; rfl
def mid (c : UInt8) (w : Txt) (row : List Bool) (m k : Nat) : List Bool := rowN c w row k ++ List.replicate (m - k) false
theorem mid_length (c : UInt8) (w : Txt) (row : List Bool) (m k : Nat) (h : k ≤ m) : (mid c w row m k).length = m := by
 unfold mid
 rw [List.length_append, rowN_length, List.length_replicate]; omega
theorem mid_set (c : UInt8) (w : Txt) (row : List Bool) (m k : Nat) (h : k < m) (v : Bool) (hv : v = val c w row ((rowN c w row k).getD (k - 1) false) k) : (mid c w row m k).set k v = mid c w row m (k + 1) := by
 unfold mid
 obtain ⟨j, hj⟩ : ∃ j, m - k = j + 1 := ⟨m - k - 1, by omega⟩
 rw [List.set_append_right _ _ (by rw [rowN_length]; exact Nat.le_refl _), rowN_length, Nat.sub_self, hj, List.replicate_succ, List.set_cons_zero, show m - (k + 1) = j from by omega, rowN, hv, List.append_assoc]
 rfl
theorem mid_keep (c : UInt8) (w : Txt) (row : List Bool) (m k : Nat) (h : k < m) (hv : val c w row ((rowN c w row k).getD (k - 1) false) k = false) : mid c w row m k = mid c w row m (k + 1) := by
 rw [← mid_set c w row m k h false hv.symm]
 unfold mid
 obtain ⟨j, hj⟩ : ∃ j, m - k = j + 1 := ⟨m - k - 1, by omega⟩
 rw [List.set_append_right _ _ (by rw [rowN_length]; exact Nat.le_refl _), rowN_length, Nat.sub_self, hj, List.replicate_succ, List.set_cons_zero]
theorem mid_prev (c : UInt8) (w : Txt) (row : List Bool) (m k : Nat) (h : k < m) (h0 : 0 < k) : rdOf false (mid c w row m k) ((k - 1 : Nat) : Int) = (rowN c w row k).getD (k - 1) false := by
 unfold rdOf mid
 rw [Int.toNat_natCast, List.getD_eq_getElem?_getD, List.getD_eq_getElem?_getD, List.getElem?_append_left (by rw [rowN_length]; omega)]
theorem mid_zero (c : UInt8) (w : Txt) (row : List Bool) (m : Nat) : mid c w row m 0 = List.replicate m false := by
 unfold mid; rw [rowN, List.nil_append, Nat.sub_zero]
theorem mid_end (c : UInt8) (w : Txt) (row : List Bool) (m : Nat) : mid c w row m m = rowN c w row m := by
 unfold mid; rw [Nat.sub_self]; simp
theorem rd_row (row : List Bool) (k : Nat) : rdOf false row (k : Int) = row.getD k false := by unfold rdOf; rw [Int.toNat_natCast]
theorem dec1 (k : Nat) (h : 0 < k) (h2 : k < 1000) : wrap64 ((k : Int) - 1) = ((k - 1 : Nat) : Int) := by rw [wrap64_id (by omega) (by omega)]; omega
theorem val_star_t {c : UInt8} {w : Txt} {row : List Bool} {prev : Bool} {k : Nat} (h : (c.toNat : Int) = 42) (hr : row.getD k false = true) : true = val c w row prev k := by
 unfold val; rw [if_pos h, hr]; rfl
theorem val_star_p {c : UInt8} {w : Txt} {row : List Bool} {prev : Bool} {k : Nat} (h : (c.toNat : Int) = 42) (hr : ¬ row.getD k false = true) (h0 : 0 < k) : prev = val c w row prev k := by
 unfold val; rw [if_pos h, Bool.eq_false_iff.2 hr, decide_eq_true h0]; simp
theorem val_star_0 {c : UInt8} {w : Txt} {row : List Bool} {prev : Bool} {k : Nat} (h : (c.toNat : Int) = 42) (hr : ¬ row.getD k false = true) (h0 : ¬ 0 < k) : false = val c w row prev k := by
 unfold val; rw [if_pos h, Bool.eq_false_iff.2 hr, decide_eq_false h0]; rfl
theorem val_zero {c : UInt8} {w : Txt} {row : List Bool} {prev : Bool} {k : Nat} (h : ¬ (c.toNat : Int) = 42) (h0 : ¬ 0 < k) : val c w row prev k = false := by
 unfold val; rw [if_neg h, decide_eq_false h0]; rfl
theorem val_q {c : UInt8} {w : Txt} {row : List Bool} {prev : Bool} {k : Nat} (h : ¬ (c.toNat : Int) = 42) (h0 : 0 < k) (hq : (c.toNat : Int) = 63) : row.getD (k - 1) false = val c w row prev k := by
 unfold val; rw [if_neg h, decide_eq_true h0, decide_eq_true hq]; simp
theorem val_c {c : UInt8} {w : Txt} {row : List Bool} {prev : Bool} {k : Nat} (h : ¬ (c.toNat : Int) = 42) (h0 : 0 < k) (hq : ¬ (c.toNat : Int) = 63) : (row.getD (k - 1) false && decide ((c.toNat : Int) = ((w.getD (k - 1) 0).toNat : Int))) = val c w row prev k := by
 unfold val; rw [if_neg h, decide_eq_true h0, decide_eq_false hq]; simp
def fitL (w : Txt) : Txt → List Bool → Bool
 | [], row => row.getD w.length false
 | c :: r, row => fitL w r (rowN c w row (w.length + 1))
theorem spec_in (p w : Txt) (hp : p.length ≤ 14) (hw : w.length ≤ 12) (n : Nat) (hn : n < p.length) (row : List Bool) (hrow : row.length = w.length + 1) (r : Bool) (hr : Ev (fun k => sF54.l0 k (B p) (B w) (rowN (p.getD n 0) w row (w.length + 1)) ((n + 1 : Nat) : Int)) r) :
  ∀ d k, k + d = w.length + 1 → Ev (fun j => sF54.l1 j (B p) (B w) row (n : Int) (mid (p.getD n 0) w row (w.length + 1) k) (k : Int)) r := by
 intro d
 induction d with
 | zero =>
  intro k h
  refine Ev.step (fun k => sF54.l1.eq_2 ..) (Ev.ifF (by rw [size_B]; omega) ?_)
  rw [show k = w.length + 1 from by omega, mid_end, wrap64_succ n (by omega)]
  exact hr
 | succ d ih =>
  intro k h
  have hk : k < w.length + 1 := by omega
  have tl := ih (k + 1) (by omega)
  have hml := mid_length (p.getD n 0) w row (w.length + 1) k (by omega)
  refine Ev.step (fun k => sF54.l1.eq_2 ..) (Ev.ifT (by rw [size_B]; omega) (Ev.ifT (by omega) (Ev.ifT (by rw [size_B]; omega) ?_)))
  have hset := mid_set (p.getD n 0) w row (w.length + 1) k hk
  have hkeep := mid_keep (p.getD n 0) w row (w.length + 1) k hk
  simp only [bt_B p n hn, Int.toNat_natCast, wrap64_succ k (by omega)]
  generalize p.getD n 0 = c at hset hkeep tl hml
  by_cases c42 : (c.toNat : Int) = 42
  ·
   refine Ev.ifT c42 (Ev.ifT (by omega) (Ev.ifT (by omega) ?_))
   rw [rd_row]
   by_cases hrk : row.getD k false = true
   ·
    refine Ev.ifT hrk (Ev.ifT (by omega) ?_)
    rw [hset true (val_star_t c42 hrk)]; exact tl
   refine Ev.ifF hrk ?_
   by_cases h0 : 0 < k
   ·
    refine Ev.ifT (by omega) ?_
    rw [dec1 k h0 (by omega), mid_prev c w row _ k hk h0]
    refine Ev.ifT (by omega) (Ev.ifT (by omega) (Ev.ifT (by omega) ?_))
    rw [hset _ (val_star_p c42 hrk h0)]; exact tl
   refine Ev.ifF (by omega) (Ev.ifT (by omega) ?_)
   rw [hset _ (val_star_0 c42 hrk h0)]; exact tl
  refine Ev.ifF c42 ?_
  by_cases h0 : 0 < k
  rotate_left
  ·
   refine Ev.ifF (by omega) ?_
   rw [hkeep (val_zero c42 h0)]; exact tl
  refine Ev.ifT (by omega) ?_
  rw [dec1 k h0 (by omega), rd_row]
  refine Ev.ifT (by omega) (Ev.ifT (by omega) ?_)
  by_cases c63 : (c.toNat : Int) = 63
  ·
   have hv := val_q (w := w) (row := row) (prev := (rowN c w row k).getD (k - 1) false) c42 h0 c63
   by_cases hrk : row.getD (k - 1) false = true
   ·
    refine Ev.ifT hrk (Ev.ifT c63 (Ev.ifT (by omega) (Ev.ifT (by omega) ?_)))
    rw [hset true (by rw [← hv, hrk])]; exact tl
   refine Ev.ifF hrk (Ev.ifT (by omega) (Ev.ifT (by omega) ?_))
   rw [hset false (by rw [← hv, Bool.eq_false_iff.2 hrk])]; exact tl
  have hv := val_c (w := w) (row := row) (prev := (rowN c w row k).getD (k - 1) false) c42 h0 c63
  by_cases hrk : row.getD (k - 1) false = true
  ·
   refine Ev.ifT hrk (Ev.ifF c63 (Ev.ifT (by rw [size_B]; omega) (Ev.ifT (by omega) (Ev.ifT (by omega) ?_))))
   rw [bt_B w (k - 1) (by omega), hset _ (by rw [← hv, hrk, Bool.true_and]; rfl)]; exact tl
  refine Ev.ifF hrk (Ev.ifT (by omega) (Ev.ifT (by omega) ?_))
  rw [hset false (by rw [← hv, Bool.eq_false_iff.2 hrk]; rfl)]; exact tl
theorem iF13 (p w : Txt) (hp : p.length ≤ 14) (hw : w.length ≤ 12) (n : Nat) (hn : n < p.length) (row : List Bool) (hrow : row.length = w.length + 1) (r : Bool) (hr : Ev (fun k => iF12.l0 k (B p) (B w) (rowN (p.getD n 0) w row (w.length + 1)) (p.length : Int) ((n + 1 : Nat) : Int)) r) :
  ∀ d k, k + d = w.length + 1 → Ev (fun j => iF12.l1 j (B p) (B w) row (n : Int) (mid (p.getD n 0) w row (w.length + 1) k) (p.length : Int) (n : Int) ((w.length + 1 : Nat) : Int) (k : Int)) r := by
 intro d
 induction d with
 | zero =>
  intro k h
  refine Ev.step (fun k => iF12.l1.eq_2 ..) (Ev.ifF (by omega) ?_)
  rw [show k = w.length + 1 from by omega, mid_end, wrap64_succ n (by omega)]
  exact hr
 | succ d ih =>
  intro k h
  have hk : k < w.length + 1 := by omega
  have tl := ih (k + 1) (by omega)
  have hml := mid_length (p.getD n 0) w row (w.length + 1) k (by omega)
  refine Ev.step (fun k => iF12.l1.eq_2 ..) (Ev.ifT (by omega) (Ev.ifT (by omega) (Ev.ifT (by rw [size_B]; omega) ?_)))
  have hset := mid_set (p.getD n 0) w row (w.length + 1) k hk
  have hkeep := mid_keep (p.getD n 0) w row (w.length + 1) k hk
  simp only [bt_B p n hn, Int.toNat_natCast, wrap64_succ k (by omega)]
  generalize p.getD n 0 = c at hset hkeep tl hml
  by_cases c42 : (c.toNat : Int) = 42
  ·
   refine Ev.ifT c42 (Ev.ifT (by omega) (Ev.ifT (by omega) ?_))
   rw [rd_row]
   by_cases hrk : row.getD k false = true
   ·
    refine Ev.ifT hrk (Ev.ifT (by omega) ?_)
    rw [hset true (val_star_t c42 hrk)]; exact tl
   refine Ev.ifF hrk ?_
   by_cases h0 : 0 < k
   ·
    refine Ev.ifT (by omega) ?_
    rw [dec1 k h0 (by omega), mid_prev c w row _ k hk h0]
    refine Ev.ifT (by omega) (Ev.ifT (by omega) (Ev.ifT (by omega) ?_))
    rw [hset _ (val_star_p c42 hrk h0)]; exact tl
   refine Ev.ifF (by omega) (Ev.ifT (by omega) ?_)
   rw [hset _ (val_star_0 c42 hrk h0)]; exact tl
  refine Ev.ifF c42 ?_
  by_cases h0 : 0 < k
  rotate_left
  ·
   refine Ev.ifF (by omega) ?_
   rw [hkeep (val_zero c42 h0)]; exact tl
  refine Ev.ifT (by omega) ?_
  rw [dec1 k h0 (by omega), rd_row]
  by_cases c63 : (c.toNat : Int) = 63
  ·
   have hv := val_q (w := w) (row := row) (prev := (rowN c w row k).getD (k - 1) false) c42 h0 c63
   refine Ev.ifT c63 (Ev.ifT (by omega) (Ev.ifT (by omega) (Ev.ifT (by omega) (Ev.ifT (by omega) ?_))))
   rw [hset _ hv]; exact tl
  have hv := val_c (w := w) (row := row) (prev := (rowN c w row k).getD (k - 1) false) c42 h0 c63
  refine Ev.ifF c63 (Ev.ifT (by omega) (Ev.ifT (by rw [size_B]; omega) ?_))
  rw [bt_B w (k - 1) (by omega)]
  by_cases hc : (c.toNat : Int) = ((w.getD (k - 1) 0).toNat : Int)
  ·
   refine Ev.ifT hc (Ev.ifT (by omega) (Ev.ifT (by omega) (Ev.ifT (by omega) ?_)))
   rw [hset _ (by rw [← hv, decide_eq_true hc, Bool.and_true])]; exact tl
  refine Ev.ifF hc ?_
  rw [hkeep (by rw [← hv, decide_eq_false hc, Bool.and_false])]; exact tl
theorem spec_out (p w : Txt) (hp : p.length ≤ 14) (hw : w.length ≤ 12) : ∀ d n row, n + d = p.length → row.length = w.length + 1 → Ev (fun k => sF54.l0 k (B p) (B w) row (n : Int)) (fitL w (p.drop n) row) := by
 intro d
 induction d with
 | zero =>
  intro n row h hr
  refine Ev.step (fun k => sF54.l0.eq_2 ..) (Ev.ifF (by rw [size_B]; omega) (Ev.ifT (by omega) (Ev.ifT (by rw [size_B]; omega) ?_)))
  rw [List.drop_of_length_le (by omega), fitL, size_B, rd_row]
  exact Ev.now _
 | succ d ih =>
  intro n row h hr
  have h1 : n < p.length := by omega
  have tl := ih (n + 1) (rowN (p.getD n 0) w row (w.length + 1)) (by omega) (rowN_length _ _ _ _)
  refine Ev.step (fun k => sF54.l0.eq_2 ..) (Ev.ifT (by rw [size_B]; omega) ?_)
  rw [size_B, wrap64_succ _ (by omega), Int.toNat_natCast]
  refine Ev.ifT (by omega) (Ev.ifT (by omega) ?_)
  rw [drop_cons_getD 0 h1, fitL, ← mid_zero (p.getD n 0) w row]
  exact spec_in p w hp hw n h1 row hr _ tl (w.length + 1) 0 (Nat.zero_add _)
theorem impl_out (p w : Txt) (hp : p.length ≤ 14) (hw : w.length ≤ 12) : ∀ d n row, n + d = p.length → row.length = w.length + 1 → Ev (fun k => iF12.l0 k (B p) (B w) row (p.length : Int) (n : Int)) (fitL w (p.drop n) row) := by
 intro d
 induction d with
 | zero =>
  intro n row h hr
  refine Ev.step (fun k => iF12.l0.eq_2 ..) (Ev.ifF (by omega) (Ev.ifT (by omega) (Ev.ifT (by rw [size_B]; omega) ?_)))
  rw [List.drop_of_length_le (by omega), fitL, size_B, rd_row]
  exact Ev.now _
 | succ d ih =>
  intro n row h hr
  have h1 : n < p.length := by omega
  have tl := ih (n + 1) (rowN (p.getD n 0) w row (w.length + 1)) (by omega) (rowN_length _ _ _ _)
  refine Ev.step (fun k => iF12.l0.eq_2 ..) (Ev.ifT (by omega) ?_)
  rw [size_B, wrap64_succ _ (by omega), Int.toNat_natCast]
  refine Ev.ifT (by omega) (Ev.ifT (by omega) (Ev.some_bind ?_))
  rw [List.length_replicate, drop_cons_getD 0 h1, fitL, ← mid_zero (p.getD n 0) w row]
  exact iF13 p w hp hw n h1 row hr _ tl (w.length + 1) 0 (Nat.zero_add _)
def fit (p w : Txt) : Bool := fitL w p ((List.replicate (w.length + 1) false).set 0 true)
theorem spec_ev (p w : Txt) (hp : p.length ≤ 14) (hw : w.length ≤ 12) : Ev (fun k => sF54.f k (B p) (B w)) (fit p w) := by
 unfold sF54.f
 rw [size_B, wrap64_succ _ (by omega), Int.toNat_natCast]
 refine Ev.ifT (by omega) (Ev.ifT (by omega) (Ev.some_bind (Ev.ifT (by rw [List.length_replicate]; omega) ?_)))
 exact spec_out p w hp hw p.length 0 _ (Nat.zero_add _) (by rw [List.length_set, List.length_replicate])
theorem impl_ev (p w : Txt) (hp : p.length ≤ 14) (hw : w.length ≤ 12) : Ev (fun k => iF12.f k (B p) (B w)) (fit p w) := by
 unfold iF12.f
 rw [size_B, size_B, wrap64_succ _ (by omega), Int.toNat_natCast]
 refine Ev.ifT (by omega) (Ev.ifT (by omega) (Ev.some_bind (Ev.ifT (by rw [List.length_replicate]; omega) ?_)))
 exact impl_out p w hp hw p.length 0 _ (Nat.zero_add _) (by rw [List.length_set, List.length_replicate])
end Fit
end Go.Proofs.YtjpepfdpihojfaaGreatDoor.L
namespace Go.Proofs.YtjpepfdpihojfaaGreatDoor.Pure
open Go.RowKit Go.Proofs.YtjpepfdpihojfaaGreatDoor.P Go.Proofs.YtjpepfdpihojfaaGreatDoor.M Go.Proofs.YtjpepfdpihojfaaGreatDoorW.PrintWords Go.Proofs.YtjpepfdpihojfaaGreatDoorW.PrintLast Go.Proofs.YtjpepfdpihojfaaGreatDoorW.PrintMore
open Go.Proofs.YtjpepfdpihojfaaGreatDoor.L
namespace FitWords
theorem spec_loop {ws : List Txt} (h : OkW ws) (p : Txt) (hp : p.length ≤ 14) (R : List Txt) : ∀ (d i : Nat) (acc : List Txt), i + d = ws.length → acc.length ≤ i → acc ++ (ws.drop i).filter (Fit.fit p) = R →
  Ev (fun k => sF38.l0 k (B p) (acc.map B) (ws.map B) (i : Int)) (R.map B, true) := by
 have h40 := h.len
 intro d
 induction d with
 | zero =>
  intro i acc q1 q0 q2
  rw [List.drop_of_length_le (by omega), List.filter_nil, List.append_nil] at q2
  subst q2
  exact Ev.step (fun k => sF38.l0.eq_2 ..) (Ev.ifF (by rw [List.length_map]; omega) (Ev.now _))
 | succ d ih =>
  intro i acc q1 q0 q2
  have hi : i < ws.length := by omega
  have hwi := h.le _ (getD_mem hi)
  rw [drop_cons_getD [] hi, List.filter_cons] at q2
  refine Ev.step (fun k => sF38.l0.eq_2 ..) (Ev.ifT (by rw [List.length_map]; omega) (Ev.ifT (by omega) ?_))
  rw [rdB ws i hi]
  refine Ev.bind (Fit.spec_ev p _ hp hwi) ?_
  by_cases hq : Fit.fit p (ws.getD i []) = true
  ·
   rw [if_pos hq] at q2
   refine Ev.ifT hq (Ev.ifT (by rw [List.length_map]; omega) ?_)
   rw [wrap64_succ i (by omega)]
   have := ih (i + 1) (acc ++ [ws.getD i []]) (by omega) (by simp; omega) (by rw [List.append_assoc]; exact q2)
   rwa [List.map_append] at this
  rw [if_neg hq] at q2
  refine Ev.ifF hq ?_
  rw [wrap64_succ i (by omega)]
  exact ih (i + 1) acc (by omega) (by omega) q2
theorem impl_g {ws : List Txt} (h : OkW ws) (p : Txt) (hp : p.length ≤ 14) : Ev (fun k => iF7.g k (trN (preL ws) ws) (B p)) ((ws.filter (Fit.fit p)).map B) := by
 have h40 := h.len
 have hok := okFilter h (Fit.fit p)
 unfold iF7.g
 refine Ev.bind (words_ev h) (Ev.ifT (by rw [List.length_map]; omega) (Ev.bind (a := (ws.filter (Fit.fit p)).map B) ?_ (Ev.bind (trieOf_ev hok) (words_ev hok))))
 refine filtB_ev _ _ (Fit.fit p) fun o ho => ?_
 unfold iF7.p
 exact Fit.impl_ev p o hp (h.le o ho)
theorem both (N : List Nd) (p : Txt) (hp : p.length ≤ 1048576) : ∃ r : List ByteArray × Bool, r.1.length ≤ 1000 ∧ Ev (fun k => sF38.f k N (B p)) r ∧ Ev (fun k => iF7.f k N (B p)) r := by
 have e0 := l6Pattern_ev p (by omega)
 have s0 : Ev (fun k => sF38.j0 k (B p) [] true N) ([], false) := Ev.step (fun k => sF38.j0.eq_2 ..) (Ev.ifT rfl (Ev.now _))
 unfold sF38.f iF7.f
 rw [isPattern_eq]
 rcases trie_both N with ⟨⟨ws, h, rfl⟩, e1, e2⟩ | ⟨_, e1, e2⟩
 ·
  cases h1 : pat p with
  | false => rw [h1] at e0; exact ⟨([], false), by simp, Ev.some_bind (Ev.bind e1 (Ev.ifT rfl (Ev.bind e0 s0))), Ev.bind e2 (Ev.ifT rfl (Ev.some_bind (Ev.ifF Bool.false_ne_true (Ev.now _))))⟩
  | true =>
   rw [h1] at e0
   have h14 : p.length ≤ 14 := by unfold pat at h1; simp at h1; exact h1.2
   refine ⟨((ws.filter (Fit.fit p)).map B, true), ?_, Ev.some_bind (Ev.bind e1 (Ev.ifT rfl (Ev.bind e0 (Ev.step (fun k => sF38.j0.eq_2 ..) (Ev.ifF (by simp) ?_))))), Ev.bind e2 (Ev.ifT rfl (Ev.some_bind (Ev.ifT rfl (Ev.bind (impl_g h p h14) (Ev.now _)))))⟩
   ·
    rw [List.length_map]; have := (okFilter h (Fit.fit p)).len; omega
   exact Ev.bind (l2Words_ev h) (spec_loop h p h14 _ ws.length 0 [] (by omega) (by simp) (by rw [List.drop_zero, List.nil_append]))
 exact ⟨([], false), by simp, Ev.some_bind (Ev.bind e1 (Ev.ifF Bool.false_ne_true s0)), Ev.bind e2 (Ev.ifF Bool.false_ne_true (Ev.now _))⟩
end FitWords
theorem FnExactFittingWords : wF20.Pure := by
 intro l a hl ha
 obtain ⟨p, rfl⟩ := exB a
 by_cases hb : ((B p).size : Int) > 1048576
 ·
  exact ⟨0, by unfold wF20.f; rw [if_pos hb]⟩
 rw [size_B] at hb
 by_cases hs : l.length ≤ 1048576
 ·
  obtain ⟨r, hr, h1, h2⟩ := FitWords.both (toN l) p (by omega)
  have hP := eqTrie_ev (toN l) (by rw [toN_length]; omega)
  have hE := eqStringS_ev r.1 (by omega)
  have hM := markTrie_ev (toN l) (by rw [toN_length]; omega)
  have hT := markStringS_ev r.1 (by omega)
  have hH := heldStringS_ev r.1 (by omega)
  refine Ev.rounds ?_
  unfold wF20.f
  refine Ev.ifF (by rw [size_B]; exact hb) ?_
  rw [szTrie_eq l hl, if_pos hs]
  refine Ev.some_bind (Ev.ifF (by omega) (Ev.bind (toTrie_ev l hs) (Ev.bind h1 (Ev.bind (toTrie_ev l hs) (Ev.bind h2 (Ev.bind hE (Ev.ifT rfl ?_)))))))
  refine Ev.step (fun k => wF20.j0.eq_2 ..) (Ev.ifF (by simp) (Ev.bind (toTrie_ev l hs) (Ev.bind hP (Ev.ifT rfl (Ev.bind hM (Ev.ifF (by omega) (Ev.bind hE (Ev.ifT rfl ?_))))))))
  refine Ev.step (fun k => wF20.j1.eq_2 ..) (Ev.ifF (by simp) (Ev.bind hT (Ev.bind hH (Ev.ifF (by omega) (Ev.ifT rfl (Ev.bind (toTrie_ev l hs) (Ev.bind h2 (Ev.bind hE (Ev.ifT rfl ?_)))))))))
  exact Ev.step (fun k => wF20.j2.eq_2 ..) (Ev.ifF (by simp) (Ev.bind hH (Ev.ifF (by omega) (Ev.ifT rfl (Ev.now _)))))
 exact ⟨0, by unfold wF20.f; rw [if_neg (by rw [size_B]; exact hb), szTrie_eq l hl, if_neg hs]; rfl⟩
end Go.Proofs.YtjpepfdpihojfaaGreatDoor.Pure
namespace Go.Proofs.YtjpepfdpihojfaaGreatDoor.fnExactFittingWords
open Go.ChangeShapes Go.WideShapes Go.ChangeAt Go.RowKit Go.Proofs.YtjpepfdpihojfaaGreatDoor.P
open Go.ChangeMaps (open_string shut_string)
def laidL : List (String × DataW Unit) := [("unicode/utf8.acceptRanges", Rows.laid_unicode_utf8_acceptRanges), ("unicode/utf8.first", Rows.laid_unicode_utf8_first)]
theorem own : ownKnob Tryz.prog.godebug = none := by kernel_rfl
theorem laidOut : laidOutB Tryz.prog = true := by kernel_rfl
theorem lifted (os : Os) (started : os.Started) (H : Type) (enc : TypeId × Value → H) :
    ReturnsInHanded {} Tryz.checked os 3 .any (fun w args => (Rows.fnExactFittingWordsSpec.pre enc Tryz.prog Tryz.f3 [] false w args ∧ laidMetH Tryz.prog laidL w) ∧ sizedMet enc Tryz.prog Tryz.f3 (OpenSpec.ofChange Rows.fnExactFittingWordsSpec) false w args) (Rows.fnExactFittingWordsSpec.post enc Tryz.prog Tryz.f3 false true false false) := by
  refine returnsInHanded_of_change_and (C := Tryz.checked) (X := fun w _ => laidMetH Tryz.prog laidL w) (fun _ _ _ hh h => h.of_heap hh) own started (by kernel_rfl) Tryz.func3
    (ChangeSpec.witness_shaped (enc := enc) (C := Tryz.checked) (os := os) (X := fun w _ => laidMetH Tryz.prog laidL w) false (World.laidAll Tryz.prog os laidL) #[.agg #[.slice none 0 0], .string ByteArray.empty] 8 (World.laidAll_os _ _ _) (World.shaped_of_ZipB (by kernel_rfl) (by kernel_rfl)) (by kernel_rfl) (by kernel_rfl) (by kernel_rfl)
      (by rw [MakeChecks.laidMetH_plain _ _ _ (by kernel_rfl)]; exact laidMet_laidAll _ (by kernel_rfl) (by kernel_rfl))) ?_
  intro W base args ds gs before hval0 hW hcnd hsz0 hL_ _
  have hsz : (DataW.weightsEach Tryz.prog (Tryz.f3.params.toList ++ Rows.fnExactFittingWordsSpec.plain.varTypes Tryz.prog) (ds ++ gs)).all (· ≤ reachBytes) = true := hsz0
  have hval : ∀ (j : Nat) t v, Tryz.f3.params[j]? = some t → args[j]? = some v → Value.okWide Tryz.prog W .any base t v := hval0
  have hW' := hW
  obtain ⟨p, q, hA0, hV, rfl, hfz, hnd⟩ := hW
  have hA : DataW.TrodAll enc Tryz.prog W 0 (fun _ => true) true Tryz.f3.params.toList args.toList ds p := hA0
  rw [Tryz.params3] at hA hval hsz
  obtain ⟨v0, vs0, d0, ds0, p0, q0, hargs, rfl, rfl, h0, r0⟩ := trodAll_cons hA
  obtain ⟨v1, vs1, d1, ds1, p1, q1, rfl, rfl, rfl, h1, r1⟩ := trodAll_cons r0
  obtain ⟨rfl, rfl, rfl⟩ := trodAll_nil r1
  obtain rfl : args = #[v0, v1] := by cases args; simp_all
  obtain ⟨rfl, rfl⟩ := trodVars_none hV
  have k0 := h0
  have lt0 : ∀ x ∈ p0, x.block < W.heap.size := by obtain ⟨m, hm⟩ := k0; exact DataW.trod_lt m _ _ _ hm
  obtain ⟨A0, c0, l0, ev0, hc0, hr0⟩ := OT.trie (hval 0 24 v0 rfl rfl) h0
  subst ev0
  obtain ⟨a1, rfl, rfl, rfl, y1⟩ := open_string Tryz.underlying9 (hval 1 9 v1 rfl rfl) h1
  have w1 : a1.size ≤ 140737488351232 := by
    have z := sized_string hsz (j := 1) (t := 9) rfl rfl
    rw [Array.length_toList] at z
    exact z
  clear hA0 hval0 hsz0 hsz
  refine (wF20.walk Pure.FnExactFittingWords W A0 c0 l0 hr0 hc0 a1 w1).mono fun e W' ⟨he, bel⟩ => ?_
  subst he
  exact ⟨_, rfl, _, _, _, [], _, [], hW', trodAll_mk1 (shut_bool Tryz.underlying4 _), (trodAll_cons_mk (Below.trod laidOut (by kernel_rfl) (of_decide_eq_true (by kernel_rfl)) k0 bel lt0) (trodAll_cons_mk (shut_string Tryz.underlying9 y1) trodAll_mk0)), rfl, bel.frame _, fun h => by cases h⟩
theorem over : Rows.fnExactFittingWordsRow.holds Tryz.pinned (OpenSpec.ofChange Rows.fnExactFittingWordsSpec) :=
  OpenClaim.holds_of_wide 3 Tryz.f3 rfl rfl rfl rfl rfl rfl rfl ⟨rfl, rfl, rfl, rfl, rfl⟩ rfl rfl rfl rfl rfl (by kernel_rfl) Tryz.func3 (by kernel_rfl)
    (of_decide_eq_true (by kernel_rfl)) (by unfold Func.isWrapper; first | (rw [if_pos (by decide +kernel)]; kernel_rfl) | (rw [if_neg (by decide +kernel)]; exact ⟨rfl, rfl⟩))
    (fun os started H enc _ => lifted os started H enc)
theorem proved : Rows.FnExactFittingWordsSaid := over
end Go.Proofs.YtjpepfdpihojfaaGreatDoor.fnExactFittingWords
namespace Go.Proofs.YtjpepfdpihojfaaGreatDoor
theorem fnExactFittingWords_holds : Rows.FnExactFittingWordsSaid := fnExactFittingWords.proved
theorem fnExactFittingWords_card : Rows.FnExactFittingWordsCardSaid :=
  Claim7.holds_tied_plain_at .later [] [.data, .pinned] true (true, "991e0df518dc7de31be7b525fedca6b111a25a29580da475f581eb759965474f") true
    fnExactFittingWords_holds (fun _ h => by cases h) (by kernel_rfl) (fun _ h => by cases h) fnExactFittingWords_row_tie rfl ⟨rfl, rfl⟩ (by kernel_rfl) rfl
    (fun f fn hf hfn => by
      obtain rfl : f = 3 := Option.some.inj ((show Tryz.prog.funcNamed "loop.example/g01243/laws.FnExactFittingWords" = some 3 by kernel_rfl).symm.trans hf) |>.symm
      obtain rfl : fn = Tryz.f3 := (Option.some.inj (Tryz.func3.symm.trans hfn)).symm
      exact ⟨by kernel_rfl, fun j t ht => by
        rw [Tryz.params3] at ht
        have hm : t ∈ [24, 9] := by simpa using Array.mem_of_getElem? ht
        have hall : ([24, 9].all fun u => !Tryz.prog.wantsStandIn u) = true := by kernel_rfl
        exact (show Tryz.prog.wantsStandIn t = false by simpa using List.all_eq_true.1 hall t hm)⟩)
    (by kernel_rfl)
end Go.Proofs.YtjpepfdpihojfaaGreatDoor
