/-
  Part 5 of what several laws reach in common: functions of the program, each with its contract, and plain lemmas.
  Conditions: those of the given statement, no others.
-/
import Derived.Test.YtfhffcefpnkllaaGreatDoorKcW0
import Derived.Test.YtfhffcefpnkllaaGreatDoorKc0
import Derived.Test.YtfhffcefpnkllaaGreatDoorKc3
import Derived.Test.YtfhffcefpnkllaaGreatDoorKc1
import Derived.Test.YtfhffcefpnkllaaGreatDoorKc2
set_option linter.unusedVariables false
set_option linter.unusedSimpArgs false
set_option maxHeartbeats 8000000
set_option maxRecDepth 100000
namespace Go.Proofs.YtfhffcefpnkllaaGreatDoor.L
open Go.RowKit Go.Proofs.YtfhffcefpnkllaaGreatDoor.P Go.Proofs.YtfhffcefpnkllaaGreatDoor.M Go.Proofs.YtfhffcefpnkllaaGreatDoorW.PrintWords Go.Proofs.YtfhffcefpnkllaaGreatDoorW.PrintLast Go.Proofs.YtfhffcefpnkllaaGreatDoorW.PrintMore
abbrev Bd := S60
def brN (x : Txt × Int × Bool) : Bd := ⟨B x.1, x.2.1, x.2.2⟩
def brs (P ws : List Txt) : List Bd := (brsL P ws).map brN
theorem brs_length (P ws : List Txt) : (brs P ws).length = (stayQ P ws).length := by simp [brs, brsL]
theorem rdBr (P ws : List Txt) (i : Nat) (h : i < (stayQ P ws).length) : rd_T60 (brs P ws) (i : Int) = brN (brL P ws ((stayQ P ws).getD i [])) := by
 unfold rd_T60 brs brsL
 rw [Int.toNat_natCast, getD_lt _ (by simpa using h), getD_lt _ h]
 simp
theorem node_f1 {P : List Txt} (ws : List Txt) {i : Nat} (hi : i < P.length) (hne : P.getD i [] ≠ []) : (rd_T76 (trN P ws) (i : Int)).f1 = ((placeL P (P.getD i []).dropLast : Nat) : Int) := by
 rw [rdN P ws i hi]
 unfold mkN ndL
 rw [if_neg hne, if_neg hne]
theorem node_f2 (P ws : List Txt) {i : Nat} (hi : i < P.length) : (rd_T76 (trN P ws) (i : Int)).f2 = decide (P.getD i [] ∈ ws) := by rw [rdN P ws i hi]; rfl
theorem stay_val {P ws : List Txt} {p : Txt} (h1 : p ≠ []) (h2 : p ∉ ws) : (((kidI P p).length : Int) != 1) = stayL P ws p := by
 unfold stayL
 rw [decide_eq_false h1, decide_eq_false h2, Bool.false_or, Bool.false_or, kidI_len]
 by_cases h : (kidsL P p).length = 1
 ·
  rw [h]; rfl
 ·
  rw [decide_eq_true h, bne_iff_ne]; omega
theorem stays_ev {P : List Txt} (ws : List Txt) (hA : Asc P) (hC : Clo P) (hP : P.length ≤ 1000000) {i : Nat} (hi : i < P.length) : Ev (fun k => impl_Trie_stays.f k (trN P ws) (i : Int)) (stayL P ws (P.getD i [])) := by
 unfold impl_Trie_stays.f
 by_cases h0 : i = 0
 ·
  subst h0
  rw [(clo_zero hA hC).2, stay_nil]
  exact Ev.ifT rfl (Ev.now _)
 ·
  have hne := clo_pos hA hC hi (by omega)
  refine Ev.ifF (by omega) (Ev.ifT (by omega) (Ev.ifT (by rw [trN_length]; omega) ?_))
  rw [node_f2 P ws hi]
  by_cases hm : P.getD i [] ∈ ws
  ·
   rw [show stayL P ws (P.getD i []) = true from by unfold stayL; rw [decide_eq_true hm, Bool.or_true, Bool.true_or]]
   exact Ev.ifT (decide_eq_true hm) (Ev.now _)
  ·
   refine Ev.ifF (by rw [decide_eq_false hm]; exact Bool.false_ne_true) (Ev.bind (kids_ev ws hA hC hP hi) ?_)
   rw [stay_val hne hm]
   exact Ev.now _
theorem l4Stays_ev {P : List Txt} (ws : List Txt) (hA : Asc P) (hC : Clo P) (hP : P.length ≤ 1000000) {i : Nat} (hi : i < P.length) : Ev (fun k => spec_l4Stays.f k (trN P ws) (i : Int)) (stayL P ws (P.getD i [])) := by
 unfold spec_l4Stays.f
 by_cases h0 : i = 0
 ·
  subst h0
  rw [(clo_zero hA hC).2, stay_nil]
  exact Ev.ifT rfl (Ev.now _)
 ·
  have hne := clo_pos hA hC hi (by omega)
  refine Ev.ifF (by omega) (Ev.ifT (by omega) (Ev.ifT (by rw [trN_length]; omega) ?_))
  rw [node_f2 P ws hi]
  by_cases hm : P.getD i [] ∈ ws
  ·
   rw [show stayL P ws (P.getD i []) = true from by unfold stayL; rw [decide_eq_true hm, Bool.or_true, Bool.true_or]]
   exact Ev.ifT (decide_eq_true hm) (Ev.now _)
  ·
   refine Ev.ifF (by rw [decide_eq_false hm]; exact Bool.false_ne_true) (Ev.bind (l2Kids_ev ws hA hC hP hi) ?_)
   rw [stay_val hne hm]
   exact Ev.now _
def plcF (P ws : List Txt) : List Int := P.map fun p => if stayL P ws p = true then ((placeL (stayQ P ws) p : Nat) : Int) else 0
def plc (P ws : List Txt) (i : Nat) : List Int := (plcF P ws).take i ++ List.replicate ((plcF P ws).length - i) 0
theorem plcF_len (P ws : List Txt) : (plcF P ws).length = P.length := by simp [plcF]
theorem plc_len (P ws : List Txt) {i : Nat} (h : i ≤ P.length) : (plc P ws i).length = P.length := by
 unfold plc
 rw [List.length_append, List.length_take, List.length_replicate, plcF_len]
 omega
theorem plcF_get (P ws : List Txt) {i : Nat} (h : i < P.length) : (plcF P ws).getD i 0 = if stayL P ws (P.getD i []) = true then ((placeL (stayQ P ws) (P.getD i []) : Nat) : Int) else 0 := by
 unfold plcF
 rw [getD_lt 0 (by rw [List.length_map]; exact h), List.getElem_map, ← getD_lt [] h]
theorem plc_skip (P ws : List Txt) {i : Nat} (h : i < P.length) (hs : ¬ stayL P ws (P.getD i []) = true) : plc P ws (i + 1) = plc P ws i := by
 unfold plc
 have hl := plcF_len P ws
 rw [take_succ_getD 0 (show i < (plcF P ws).length by omega), plcF_get P ws h, if_neg hs, List.append_assoc]
 congr 1
 rw [show (plcF P ws).length - i = (plcF P ws).length - (i + 1) + 1 from by omega, List.replicate_succ]
 rfl
theorem plc_set (P ws : List Txt) {i : Nat} (h : i < P.length) (hs : stayL P ws (P.getD i []) = true) : (plc P ws i).set i ((placeL (stayQ P ws) (P.getD i []) : Nat) : Int) = plc P ws (i + 1) := by
 have := fill_set 0 (plcF P ws) i (by rw [plcF_len]; exact h) 0
 rw [plcF_get P ws h, if_pos hs] at this
 exact this
theorem plc_get (P ws : List Txt) {i j : Nat} (hi : i ≤ P.length) (hj : j < i) (hs : stayL P ws (P.getD j []) = true) : rd (plc P ws i) (j : Int) = ((placeL (stayQ P ws) (P.getD j []) : Nat) : Int) := by
 have hl := plcF_len P ws
 have h1 := plcF_get P ws (show j < P.length by omega)
 rw [if_pos hs] at h1
 rw [rd_nat, ← h1]
 unfold plc
 rw [List.getD_eq_getElem?_getD, List.getD_eq_getElem?_getD, List.getElem?_append_left (by rw [List.length_take]; omega), List.getElem?_take_of_lt hj]
theorem press_up {P : List Txt} (ws : List Txt) (hA : Asc P) (hC : Clo P) (hP : P.length ≤ 100000) {i : Nat} (hi : i < P.length) (e : Bool) (acc : List Bd) (hacc : acc.length ≤ 100000) (u : Txt) (hu : u <+: P.getD i []) (hu2 : placeL P u < i) (r : List Bd)
  (hr : Ev (fun k => impl_Trie_press.l0 k (P.map B) ((plc P ws i).set i (acc.length : Int)) (trN P ws) ((trN P ws).length : Int) ((i + 1 : Nat) : Int) (trN P ws) (acc ++ [brN ((P.getD i []).drop u.length, ((placeL (stayQ P ws) u : Nat) : Int), e)])) r) :
  ∀ (n : Nat) (q : Txt), q.length = n → q ∈ P → (if stayL P ws q = true then q else upL P ws q) = u →
  Ev (fun k => impl_Trie_press.l1 k (P.map B) (plc P ws i) (i : Int) ((placeL P q : Nat) : Int) (trN P ws) ((trN P ws).length : Int) (i : Int) (trN P ws) acc ⟨#[]⟩ (-1) e) r := by
 intro n
 induction n with
 | zero =>
  intro q hn hq hqu
  have hq0 := List.eq_nil_of_length_eq_zero hn
  subst hq0
  rw [if_pos (stay_nil P ws)] at hqu
  subst hqu
  obtain ⟨z1, z2⟩ := placeL_mem hq
  have hs := stays_ev ws hA hC (by omega) z1
  rw [z2, stay_nil] at hs
  have hpl := plc_len P ws (Nat.le_of_lt hi)
  refine Ev.step (fun k => impl_Trie_press.l1.eq_2 ..) (Ev.bind hs (Ev.ifT rfl (Ev.ifT (by omega) (Ev.ifT (by rw [List.length_map]; omega) (Ev.ifT (by omega) (Ev.ifT (by rw [List.length_map]; omega) ?_))))))
  rw [rdB P _ z1, rdB P i hi, z2, size_B, size_B, plc_get P ws (Nat.le_of_lt hi) hu2 (by rw [z2]; exact stay_nil P ws), z2, extract_B, Int.toNat_natCast, Int.toNat_natCast]
  refine Ev.ifT (by omega) (Ev.ifT (by have := hu.length_le; omega) (Ev.ifT (by omega) (Ev.ifT (by omega) (Ev.ifT (by omega) ?_))))
  rw [wrap64_succ i (by omega), List.take_of_length_le (by rw [List.length_drop]; omega)]
  exact hr
 | succ n ih =>
  intro q hn hq hqu
  obtain ⟨z1, z2⟩ := placeL_mem hq
  have hs := stays_ev ws hA hC (by omega) z1
  rw [z2] at hs
  have hpl := plc_len P ws (Nat.le_of_lt hi)
  have hne : q ≠ [] := fun e => by rw [e] at hn; simp at hn
  by_cases hst : stayL P ws q = true
  ·
   rw [if_pos hst] at hqu
   subst hqu
   rw [hst] at hs
   refine Ev.step (fun k => impl_Trie_press.l1.eq_2 ..) (Ev.bind hs (Ev.ifT rfl (Ev.ifT (by omega) (Ev.ifT (by rw [List.length_map]; omega) (Ev.ifT (by omega) (Ev.ifT (by rw [List.length_map]; omega) ?_))))))
   rw [rdB P _ z1, rdB P i hi, z2, size_B, size_B, plc_get P ws (Nat.le_of_lt hi) hu2 (by rw [z2]; exact hst), z2, extract_B, Int.toNat_natCast, Int.toNat_natCast]
   refine Ev.ifT (by omega) (Ev.ifT (by have := hu.length_le; omega) (Ev.ifT (by omega) (Ev.ifT (by omega) (Ev.ifT (by omega) ?_))))
   rw [wrap64_succ i (by omega), List.take_of_length_le (by rw [List.length_drop]; omega)]
   exact hr
  ·
   rw [if_neg hst, upL_step ws hne] at hqu
   have hf : stayL P ws q = false := by simpa using hst
   rw [hf] at hs
   have hp := node_f1 ws z1 (by rw [z2]; exact hne)
   rw [z2] at hp
   refine Ev.step (fun k => impl_Trie_press.l1.eq_2 ..) (Ev.bind hs (Ev.ifF Bool.false_ne_true (Ev.ifT (by omega) (Ev.ifT (by rw [trN_length]; omega) ?_))))
   rw [hp]
   exact ih q.dropLast (by rw [List.length_dropLast]; omega) (hC.2 q hq hne) hqu
def brA (P ws : List Txt) (i : Nat) : List Bd := ((P.take i).filter (stayL P ws)).map fun p => brN (brL P ws p)
theorem brA_len {P : List Txt} (ws : List Txt) (hA : Asc P) {i : Nat} (hi : i < P.length) (hs : stayL P ws (P.getD i []) = true) : (brA P ws i).length = placeL (stayQ P ws) (P.getD i []) := by
 unfold brA stayQ
 rw [List.length_map, placeL_filter hA (stayL P ws) hi hs]
theorem brA_all (P ws : List Txt) : brA P ws P.length = brs P ws := by
 unfold brA brs brsL stayQ
 rw [List.take_length, List.map_map]
 rfl
theorem brA_succ {P : List Txt} (ws : List Txt) {i : Nat} (hi : i < P.length) : brA P ws (i + 1) = brA P ws i ++ (if stayL P ws (P.getD i []) = true then [brN (brL P ws (P.getD i []))] else []) := by
 unfold brA
 rw [filter_take_succ (stayL P ws) hi, List.map_append]
 congr 1
 split <;> rfl
theorem brA_le (P ws : List Txt) (i : Nat) : (brA P ws i).length ≤ P.length := by
 unfold brA
 rw [List.length_map]
 exact Nat.le_trans (List.length_filter_le _ _) (List.length_take_le' _ _)
theorem up_facts {P : List Txt} (ws : List Txt) (hA : Asc P) (hC : Clo P) {i : Nat} (hi : i < P.length) (h0 : 0 < i) : P.getD i [] ≠ [] ∧ upL P ws (P.getD i []) <+: P.getD i [] ∧ placeL P (upL P ws (P.getD i [])) < i ∧ upL P ws (P.getD i []) ∈ P := by
 have hne := clo_pos hA hC hi h0
 obtain ⟨u1, u2, u3, u4⟩ := upL_spec ws hC (getD_mem hi) hne
 obtain ⟨z1, z2⟩ := placeL_mem u3
 exact ⟨hne, u1, asc_get_lt hA z1 hi (by rw [z2]; exact prefix_lt u1 u2), u3⟩
theorem press_loop {P : List Txt} (ws : List Txt) (hA : Asc P) (hC : Clo P) (hP : P.length ≤ 100000) : ∀ (d i : Nat), i + d = P.length →
  Ev (fun k => impl_Trie_press.l0 k (P.map B) (plc P ws i) (trN P ws) ((trN P ws).length : Int) (i : Int) (trN P ws) (brA P ws i)) (brs P ws) := by
 intro d
 induction d with
 | zero =>
  intro i h
  obtain rfl : i = P.length := by omega
  rw [brA_all]
  exact Ev.step (fun k => impl_Trie_press.l0.eq_2 ..) (Ev.ifF (by rw [trN_length]; omega) (Ev.now _))
 | succ d ih =>
  intro i h
  have hi : i < P.length := by omega
  have hs := stays_ev ws hA hC (by omega) hi
  have hnext := ih (i + 1) (by omega)
  have hle := brA_le P ws i
  have hpl := plc_len P ws (Nat.le_of_lt hi)
  rw [brA_succ ws hi] at hnext
  refine Ev.step (fun k => impl_Trie_press.l0.eq_2 ..) (Ev.ifT (by rw [trN_length]; omega) (Ev.ifT (by omega) (Ev.ifT (by rw [trN_length]; omega) (Ev.bind hs ?_))))
  by_cases hst : stayL P ws (P.getD i []) = true
  ·
   rw [if_pos hst, ← plc_set P ws hi hst, ← brA_len ws hA hi hst] at hnext
   refine Ev.ifT hst ?_
   by_cases h0 : 0 < i
   ·
    obtain ⟨hne, u1, u2, u3⟩ := up_facts ws hA hC hi h0
    have hb : brL P ws (P.getD i []) = ((P.getD i []).drop (upL P ws (P.getD i [])).length, ((placeL (stayQ P ws) (upL P ws (P.getD i [])) : Nat) : Int), decide (P.getD i [] ∈ ws)) := by unfold brL; rw [if_neg hne, if_neg hne]
    rw [hb] at hnext
    rw [node_f1 ws hi hne, node_f2 P ws hi]
    refine Ev.ifT (by omega) ?_
    exact press_up ws hA hC hP hi _ _ (by omega) _ u1 u2 _ hnext _ _ rfl (hC.2 _ (getD_mem hi) hne) (upL_step ws hne).symm
   ·
    have hi0 : i = 0 := by omega
    have hp0 : P.getD i [] = [] := by rw [hi0]; exact (clo_zero hA hC).2
    have hb : brN (brL P ws (P.getD i [])) = (⟨⟨#[]⟩, -1, decide (P.getD i [] ∈ ws)⟩ : Bd) := by unfold brL; rw [if_pos hp0, if_pos hp0]; rfl
    rw [hb] at hnext
    rw [node_f2 P ws hi, Int.toNat_natCast, wrap64_succ i (by omega)]
    exact Ev.ifF (by omega) (Ev.ifT (by omega) (Ev.ifT (by omega) hnext))
  ·
   rw [if_neg hst, List.append_nil, plc_skip P ws hi hst] at hnext
   rw [wrap64_succ i (by omega)]
   exact Ev.ifF hst hnext
theorem press_ev {ws : List Txt} (h : OkW ws) : Ev (fun k => impl_Trie_press.f k (trN (preL ws) ws)) (brs (preL ws) ws) := by
 have hp := h.pre
 unfold impl_Trie_press.f
 refine Ev.bind (prefixes_tr h) (Ev.ifT (by omega) ?_)
 rw [Int.toNat_natCast]
 refine Ev.ifT (by rw [trN_length]; omega) ?_
 have := press_loop ws (asc_preL ws) (clo_preL ws) (by omega) (preL ws).length 0 (by omega)
 unfold plc brA at this
 rw [List.take_zero, List.take_zero, List.filter_nil, List.map_nil, List.nil_append, Nat.sub_zero, plcF_len] at this
 rw [trN_length] at this ⊢
 exact this
def stI (P ws : List Txt) : List Int := (stayQ P ws).map fun p => ((placeL P p : Nat) : Int)
theorem stI_len (P ws : List Txt) : (stI P ws).length = (stayQ P ws).length := by simp [stI]
theorem staying_loop {P : List Txt} (ws : List Txt) (hA : Asc P) (hC : Clo P) (hP : P.length ≤ 100000) : ∀ (d i : Nat), i + d = P.length →
  Ev (fun k => spec_l4Staying.l0 k (((P.take i).filter (stayL P ws)).map fun p => ((placeL P p : Nat) : Int)) (i : Int) (trN P ws)) (stI P ws) := by
 intro d
 induction d with
 | zero =>
  intro i h
  rw [List.take_of_length_le (by omega)]
  exact Ev.step (fun k => spec_l4Staying.l0.eq_2 ..) (Ev.ifF (by rw [trN_length]; omega) (Ev.now _))
 | succ d ih =>
  intro i h
  have hi : i < P.length := by omega
  have hs := l4Stays_ev ws hA hC (by omega) hi
  have hnext := ih (i + 1) (by omega)
  have hle : ((P.take i).filter (stayL P ws)).length ≤ P.length := Nat.le_trans (List.length_filter_le _ _) (List.length_take_le' _ _)
  rw [filter_take_succ (stayL P ws) hi, List.map_append] at hnext
  refine Ev.step (fun k => spec_l4Staying.l0.eq_2 ..) (Ev.ifT (by rw [trN_length]; omega) (Ev.bind hs ?_))
  rw [wrap64_succ i (by omega)]
  by_cases hst : stayL P ws (P.getD i []) = true
  ·
   rw [if_pos hst, List.map_singleton, placeL_get hA hi] at hnext
   exact Ev.ifT hst (Ev.ifT (by rw [List.length_map]; omega) hnext)
  ·
   rw [if_neg hst, List.map_nil, List.append_nil] at hnext
   exact Ev.ifF hst hnext
theorem staying_ev {P : List Txt} (ws : List Txt) (hA : Asc P) (hC : Clo P) (hP : P.length ≤ 100000) : Ev (fun k => spec_l4Staying.f k (trN P ws)) (stI P ws) := by
 have := staying_loop ws hA hC hP P.length 0 (by omega)
 rw [List.take_zero, List.filter_nil, List.map_nil] at this
 exact this
theorem stI_rd (P ws : List Txt) {j : Nat} (hj : j < (stayQ P ws).length) : rd (stI P ws) (j : Int) = ((placeL P ((stayQ P ws).getD j []) : Nat) : Int) := by
 unfold stI
 rw [rd_nat, getD_lt 0 (by rw [List.length_map]; exact hj), List.getElem_map, ← getD_lt [] hj]
theorem l4Press_par {P : List Txt} (ws : List Txt) (hA : Asc P) (hP : P.length ≤ 100000) {j : Nat} (hj : j < (stayQ P ws).length) (L : ByteArray) (e : Bool) (acc : List Bd) (hacc : acc.length ≤ 100000) (u : Txt) (hu : u ∈ stayQ P ws) (hu2 : placeL (stayQ P ws) u < j) (r : List Bd)
  (hr : Ev (fun k => spec_l4Press.l0 k (stI P ws) ((j + 1 : Nat) : Int) (trN P ws) (acc ++ [⟨L, ((placeL (stayQ P ws) u : Nat) : Int), e⟩])) r) : ∀ (d m : Nat), m + d = j →
  Ev (fun k => spec_l4Press.l2 k (stI P ws) (j : Int) ((placeL P u : Nat) : Int) (m : Int) (trN P ws) acc L (if placeL (stayQ P ws) u < m then ((placeL (stayQ P ws) u : Nat) : Int) else -1) e) r := by
 have hQl : (stayQ P ws).length ≤ P.length := List.length_filter_le _ _
 intro d
 induction d with
 | zero =>
  intro m h
  obtain rfl : m = j := by omega
  rw [if_pos hu2]
  refine Ev.step (fun k => spec_l4Press.l2.eq_2 ..) (Ev.ifF (by omega) (Ev.ifT (by omega) ?_))
  rw [wrap64_succ m (by omega)]
  exact hr
 | succ d ih =>
  intro m h
  have hm : m < (stayQ P ws).length := by omega
  have hnext := ih (m + 1) (by omega)
  refine Ev.step (fun k => spec_l4Press.l2.eq_2 ..) (Ev.ifT (by omega) (Ev.ifT (by omega) (Ev.ifT (by rw [stI_len]; omega) ?_)))
  rw [stI_rd P ws hm, wrap64_succ m (by omega)]
  have hmem := getD_mem hm
  obtain ⟨a1, a2⟩ := placeL_mem (mem_stayQ.1 hmem).1
  obtain ⟨b1, b2⟩ := placeL_mem (mem_stayQ.1 hu).1
  by_cases e1 : (stayQ P ws).getD m [] = u
  ·
   have hpm : placeL (stayQ P ws) u = m := by rw [← e1]; exact placeL_get (asc_stayQ ws hA) hm
   rw [if_pos (by omega), hpm] at hnext
   rw [e1]
   exact Ev.ifT rfl hnext
  ·
   have hne : ¬ ((placeL P ((stayQ P ws).getD m []) : Nat) : Int) = ((placeL P u : Nat) : Int) := fun e2 => e1 (by
    have e3 : placeL P ((stayQ P ws).getD m []) = placeL P u := by omega
    rw [e3] at a2
    exact a2.symm.trans b2)
   have hpm : placeL (stayQ P ws) u ≠ m := fun e2 => e1 (by rw [← e2]; exact (placeL_mem hu).2)
   refine Ev.ifF hne ?_
   by_cases hlt : placeL (stayQ P ws) u < m
   ·
    rw [if_pos hlt]; rwa [if_pos (by omega)] at hnext
   ·
    rw [if_neg hlt]; rwa [if_neg (by omega)] at hnext
theorem l4Press_up {P : List Txt} (ws : List Txt) (hA : Asc P) (hC : Clo P) (hW : ∀ p ∈ P, wordL p = true) (hP : P.length ≤ 100000) {j : Nat} (hj : j < (stayQ P ws).length) (e : Bool) (acc : List Bd) (hacc : acc.length ≤ 100000) (u : Txt) (hpre : u <+: (stayQ P ws).getD j []) (hu : u ∈ stayQ P ws) (hu2 : placeL (stayQ P ws) u < j) (r : List Bd)
  (hr : Ev (fun k => spec_l4Press.l0 k (stI P ws) ((j + 1 : Nat) : Int) (trN P ws) (acc ++ [brN (((stayQ P ws).getD j []).drop u.length, ((placeL (stayQ P ws) u : Nat) : Int), e)])) r) :
  ∀ (n : Nat) (q : Txt), q.length = n → q ∈ P → (if stayL P ws q = true then q else upL P ws q) = u →
  Ev (fun k => spec_l4Press.l1 k (stI P ws) (j : Int) ((placeL P q : Nat) : Int) (trN P ws) acc ⟨#[]⟩ (-1) e) r := by
 have fin : ∀ q, q ∈ P → stayL P ws q = true → q = u → Ev (fun k => spec_l4Press.l1 k (stI P ws) (j : Int) ((placeL P q : Nat) : Int) (trN P ws) acc ⟨#[]⟩ (-1) e) r := by
  intro q hq hst hqu
  subst hqu
  obtain ⟨z1, z2⟩ := placeL_mem hq
  have hs := l4Stays_ev ws hA hC (by omega) z1
  rw [z2, hst] at hs
  have hQm := (mem_stayQ.1 (getD_mem hj)).1
  obtain ⟨y1, y2⟩ := placeL_mem hQm
  have p1 := l2Prefix_ev ws hA hC hW _ y1
  have p2 := l2Prefix_ev ws hA hC hW _ z1
  rw [y2] at p1
  rw [z2] at p2
  refine Ev.step (fun k => spec_l4Press.l1.eq_2 ..) (Ev.bind hs (Ev.ifT rfl (Ev.ifT (by omega) (Ev.ifT (by rw [stI_len]; omega) ?_))))
  rw [stI_rd P ws hj]
  refine Ev.bind p1 (Ev.bind p2 ?_)
  rw [size_B, size_B, extract_B, Int.toNat_natCast, List.take_of_length_le (by rw [List.length_drop]; omega)]
  refine Ev.ifT (by omega) (Ev.ifT (by have := hpre.length_le; omega) ?_)
  have := l4Press_par ws hA hP hj (B (((stayQ P ws).getD j []).drop q.length)) e acc hacc q hu hu2 r hr j 0 (by omega)
  rw [if_neg (by omega)] at this
  exact this
 intro n
 induction n with
 | zero =>
  intro q hn hq hqu
  have hq0 := List.eq_nil_of_length_eq_zero hn
  subst hq0
  rw [if_pos (stay_nil P ws)] at hqu
  exact fin [] hq (stay_nil P ws) hqu
 | succ n ih =>
  intro q hn hq hqu
  by_cases hst : stayL P ws q = true
  ·
   rw [if_pos hst] at hqu
   exact fin q hq hst hqu
  ·
   obtain ⟨z1, z2⟩ := placeL_mem hq
   have hs := l4Stays_ev ws hA hC (by omega) z1
   have hne : q ≠ [] := fun e => by rw [e] at hn; simp at hn
   rw [if_neg hst, upL_step ws hne] at hqu
   have hf : stayL P ws q = false := by simpa using hst
   rw [z2, hf] at hs
   have hp := node_f1 ws z1 (by rw [z2]; exact hne)
   rw [z2] at hp
   refine Ev.step (fun k => spec_l4Press.l1.eq_2 ..) (Ev.bind hs (Ev.ifF Bool.false_ne_true (Ev.ifT (by omega) (Ev.ifT (by rw [trN_length]; omega) ?_))))
   rw [hp]
   exact ih q.dropLast (by rw [List.length_dropLast]; omega) (hC.2 q hq hne) hqu
theorem l4Press_loop {P : List Txt} (ws : List Txt) (hA : Asc P) (hC : Clo P) (hW : ∀ p ∈ P, wordL p = true) (hP : P.length ≤ 100000) : ∀ (d j : Nat), j + d = (stayQ P ws).length →
  Ev (fun k => spec_l4Press.l0 k (stI P ws) (j : Int) (trN P ws) ((brs P ws).take j)) (brs P ws) := by
 have hQl : (stayQ P ws).length ≤ P.length := List.length_filter_le _ _
 intro d
 induction d with
 | zero =>
  intro j h
  rw [List.take_of_length_le (by rw [brs_length]; omega)]
  exact Ev.step (fun k => spec_l4Press.l0.eq_2 ..) (Ev.ifF (by rw [stI_len]; omega) (Ev.now _))
 | succ d ih =>
  intro j h
  have hj : j < (stayQ P ws).length := by omega
  have hmem := getD_mem hj
  obtain ⟨z1, z2⟩ := placeL_mem (mem_stayQ.1 hmem).1
  have hnext := ih (j + 1) (by omega)
  have hbj : j < (brs P ws).length := by rw [brs_length]; exact hj
  have hx : (brs P ws)[j] = brN (brL P ws ((stayQ P ws).getD j [])) := by
   simp only [brs, brsL, List.getElem_map, getD_lt [] hj]
  rw [List.take_succ_eq_append_getElem hbj, hx] at hnext
  have hle : ((brs P ws).take j).length ≤ P.length := by rw [List.length_take, brs_length]; omega
  refine Ev.step (fun k => spec_l4Press.l0.eq_2 ..) (Ev.ifT (by rw [stI_len]; omega) (Ev.ifT (by omega) ?_))
  rw [stI_rd P ws hj]
  refine Ev.ifT (by omega) (Ev.ifT (by rw [trN_length]; omega) ?_)
  rw [node_f2 P ws z1, z2]
  by_cases h0 : 0 < j
  ·
   have hne := stayQ_pos ws hA hC hj h0
   obtain ⟨u1, u2⟩ := stayQ_parent ws hA hC hj h0
   obtain ⟨v1, v2, v3, v4⟩ := upL_spec ws hC (mem_stayQ.1 hmem).1 hne
   have hb : brL P ws ((stayQ P ws).getD j []) = (((stayQ P ws).getD j []).drop (upL P ws ((stayQ P ws).getD j [])).length, ((placeL (stayQ P ws) (upL P ws ((stayQ P ws).getD j [])) : Nat) : Int), decide ((stayQ P ws).getD j [] ∈ ws)) := by unfold brL; rw [if_neg hne, if_neg hne]
   rw [hb] at hnext
   have hp := node_f1 ws z1 (by rw [z2]; exact hne)
   rw [z2] at hp
   rw [hp]
   refine Ev.ifT (by omega) ?_
   exact l4Press_up ws hA hC hW hP hj _ _ (by omega) _ v1 (up_stayQ ws hC hmem hne) u1 _ hnext _ _ rfl (hC.2 _ (mem_stayQ.1 hmem).1 hne) (upL_step ws hne).symm
  ·
   have hj0 : j = 0 := by omega
   have hp0 : (stayQ P ws).getD j [] = [] := by rw [hj0]; exact (stayQ_zero ws hA hC).2
   have hb : brN (brL P ws ((stayQ P ws).getD j [])) = (⟨⟨#[]⟩, -1, decide ((stayQ P ws).getD j [] ∈ ws)⟩ : Bd) := by unfold brL; rw [if_pos hp0, if_pos hp0]; rfl
   rw [hb] at hnext
   rw [wrap64_succ j (by omega)]
   exact Ev.ifF (by omega) (Ev.ifT (by omega) hnext)
theorem l4Press_ev {ws : List Txt} (h : OkW ws) : Ev (fun k => spec_l4Press.f k (trN (preL ws) ws)) (brs (preL ws) ws) := by
 have hp := h.pre
 unfold spec_l4Press.f
 refine Ev.bind (staying_ev ws (asc_preL ws) (clo_preL ws) (by omega)) ?_
 have := l4Press_loop ws (asc_preL ws) (clo_preL ws) (fun p hp => preL_word h.word hp) (by omega) (stayQ (preL ws) ws).length 0 (by omega)
 rw [List.take_zero] at this
 exact this
instance : DecidableEq Bd := fun a b => if h : a.f0 = b.f0 ∧ a.f1 = b.f1 ∧ a.f2 = b.f2 then isTrue (by obtain ⟨a0, a1, a2⟩ := a; obtain ⟨b0, b1, b2⟩ := b; obtain ⟨h1, h2, h3⟩ := h; simp only at h1 h2 h3; subst h1 h2 h3; rfl) else isFalse (fun e => h (by rw [e]; exact ⟨rfl, rfl, rfl⟩))
theorem rd_getB (N : List Bd) (i : Nat) (h : i < N.length) : rd_T60 N (i : Int) = N[i] := by
 unfold rd_T60
 rw [Int.toNat_natCast, getD_lt _ h]
theorem bytes_eq (a b : ByteArray) : a.toList = b.toList ↔ a = b := by
 obtain ⟨l, rfl⟩ := exB a
 obtain ⟨m, rfl⟩ := exB b
 rw [toList_B, toList_B, B_eq]
theorem branch_ne (a b : Bd) : (!(a.f0.toList == b.f0.toList) || (!(a.f1 == b.f1) || (!(a.f2 == b.f2)))) = decide (a ≠ b) := by
 obtain ⟨a0, a1, a2⟩ := a
 obtain ⟨b0, b1, b2⟩ := b
 by_cases h0 : a0 = b0
 ·
  by_cases h1 : a1 = b1
  ·
   by_cases h2 : a2 = b2
   ·
    subst h0 h1 h2; simp
   ·
    have : (a2 == b2) = false := beq_eq_false_iff_ne.2 h2
    simp [this, h2]
  ·
   have : (a1 == b1) = false := beq_eq_false_iff_ne.2 h1
   simp [this, h1]
 ·
  have : (a0.toList == b0.toList) = false := beq_eq_false_iff_ne.2 fun e => h0 ((bytes_eq _ _).1 e)
  simp [this, h0]
theorem equalB_loop (M N : List Bd) (hM : M.length ≤ 4611686018427387903) (he : M.length = N.length) : ∀ (d i : Nat), i + d = M.length → Ev (fun k => impl_Branch.l0 k M N (M.length : Int) (i : Int)) (decide (M.drop i = N.drop i)) := by
 intro d
 induction d with
 | zero =>
  intro i h
  rw [List.drop_of_length_le (by omega), List.drop_of_length_le (by omega)]
  exact Ev.step (fun k => impl_Branch.l0.eq_2 ..) (Ev.ifF (by omega) (by simpa using Ev.now true))
 | succ d ih =>
  intro i h
  have h1 : i < M.length := by omega
  have h2 : i < N.length := by omega
  refine Ev.step (fun k => impl_Branch.l0.eq_2 ..) (Ev.ifT (by omega) (Ev.ifT (by omega) (Ev.ifT (by omega) (Ev.ifT (by omega) ?_))))
  rw [rd_getB M i h1, rd_getB N i h2, branch_ne, List.drop_eq_getElem_cons h1, List.drop_eq_getElem_cons h2]
  by_cases e : M[i] = N[i]
  ·
   rw [decide_eq_false (show ¬ M[i] ≠ N[i] from fun q => q e)]
   refine Ev.ifF Bool.false_ne_true ?_
   rw [wrap64_succ i (by omega)]
   simpa only [e, List.cons.injEq, true_and] using ih (i + 1) (by omega)
  ·
   rw [decide_eq_true e]
   refine Ev.ifT rfl ?_
   simpa only [e, List.cons.injEq, false_and, decide_false] using Ev.now false
theorem equalB_ev (M N : List Bd) (hM : M.length ≤ 4611686018427387903) : Ev (fun k => impl_Branch.f k M N) (decide (M = N)) := by
 unfold impl_Branch.f
 by_cases h : M.length = N.length
 ·
  refine Ev.ifT (by omega) ?_
  have := equalB_loop M N hM h M.length 0 (by omega)
  rwa [List.drop_zero, List.drop_zero] at this
 ·
  refine Ev.ifF (by omega) ?_
  rw [decide_eq_false fun e => h (by rw [e])]
  exact Ev.now _
theorem l4Same_loop (M N : List Bd) (hM : M.length ≤ 4611686018427387903) : ∀ (d i : Nat), i + d = M.length → i ≤ N.length → Ev (fun k => spec_l4Same.l0 k (i : Int) M N) (decide (M.drop i = N.drop i)) := by
 intro d
 induction d with
 | zero =>
  intro i h hN
  refine Ev.step (fun k => spec_l4Same.l0.eq_2 ..) (Ev.ifF (by omega) (Ev.step (fun k => spec_l4Same.j1.eq_2 ..) (Ev.ifF Bool.false_ne_true ?_)))
  rw [List.drop_of_length_le (show M.length ≤ i by omega)]
  have : ((M.length : Int) == (N.length : Int)) = decide ([] = N.drop i) := by
   by_cases e : M.length = N.length
   ·
    rw [List.drop_of_length_le (by omega), e]; simp
   ·
    have h1 : ((M.length : Int) == (N.length : Int)) = false := beq_eq_false_iff_ne.2 (by omega)
    rw [h1, decide_eq_false]
    intro q
    have := congrArg List.length q
    rw [List.length_drop, List.length_nil] at this
    omega
  rw [this]
  exact Ev.now _
 | succ d ih =>
  intro i h hN
  have h1 : i < M.length := by omega
  by_cases h2 : i < N.length
  ·
   refine Ev.step (fun k => spec_l4Same.l0.eq_2 ..) (Ev.ifT (by omega) ?_)
   rw [decide_eq_true (show (i : Int) < (N.length : Int) by omega)]
   refine Ev.step (fun k => spec_l4Same.j1.eq_2 ..) (Ev.ifT rfl (Ev.ifT (by omega) (Ev.ifT (by omega) (Ev.ifT (by omega) ?_))))
   rw [rd_getB M i h1, rd_getB N i h2, branch_ne, List.drop_eq_getElem_cons h1, List.drop_eq_getElem_cons h2]
   by_cases e : M[i] = N[i]
   ·
    rw [decide_eq_false (show ¬ M[i] ≠ N[i] from fun q => q e)]
    refine Ev.ifF Bool.false_ne_true ?_
    rw [wrap64_succ i (by omega)]
    simpa only [e, List.cons.injEq, true_and] using ih (i + 1) (by omega) (by omega)
   ·
    rw [decide_eq_true e]
    refine Ev.ifT rfl ?_
    simpa only [e, List.cons.injEq, false_and, decide_false] using Ev.now false
  ·
   refine Ev.step (fun k => spec_l4Same.l0.eq_2 ..) (Ev.ifT (by omega) ?_)
   rw [decide_eq_false (show ¬ (i : Int) < (N.length : Int) by omega)]
   refine Ev.step (fun k => spec_l4Same.j1.eq_2 ..) (Ev.ifF Bool.false_ne_true ?_)
   have h3 : ((M.length : Int) == (N.length : Int)) = false := beq_eq_false_iff_ne.2 (by omega)
   rw [h3, decide_eq_false]
   ·
    exact Ev.now _
   ·
    intro q
    have := congrArg List.length q
    rw [List.length_drop, List.length_drop] at this
    omega
theorem l4Same_ev (M N : List Bd) (hM : M.length ≤ 4611686018427387903) : Ev (fun k => spec_l4Same.f k M N) (decide (M = N)) := by
 have := l4Same_loop M N hM M.length 0 (by omega) (by omega)
 rw [List.drop_zero, List.drop_zero] at this
 exact this
def bpGo : List Bd → List Txt → Option (List Txt)
 | [], acc => some acc
 | b :: r, acc => if 0 ≤ b.f1 ∧ b.f1 < (acc.length : Int) ∧ b.f0.data.toList.length ≤ 12 ∧ wordL (acc.getD b.f1.toNat [] ++ b.f0.data.toList) = true then bpGo r (acc ++ [acc.getD b.f1.toNat [] ++ b.f0.data.toList]) else none
theorem bpref_loop (N' : List Bd) (hN : N'.length ≤ 1000000) : ∀ (d i : Nat) (acc : List Txt), i + d = N'.length → acc.length = i + 1 → (∀ p ∈ acc, wordL p = true) →
  Ev (fun k => impl_Pressed_prefixes.l0 k (acc.map B) N' (N'.length : Int) (i : Int)) (prefR (bpGo (N'.drop i) acc)) := by
 intro d
 induction d with
 | zero =>
  intro i acc h1 h2 h3
  rw [List.drop_of_length_le (by omega)]
  exact Ev.step (fun k => impl_Pressed_prefixes.l0.eq_2 ..) (Ev.ifF (by omega) (Ev.now _))
 | succ d ih =>
  intro i acc h1 h2 h3
  have hi : i < N'.length := by omega
  rw [List.drop_eq_getElem_cons hi]
  refine Ev.step (fun k => impl_Pressed_prefixes.l0.eq_2 ..) (Ev.ifT (by omega) (Ev.ifT (by omega) (Ev.ifT (by omega) ?_)))
  rw [rd_getB N' i hi, in_eq]
  obtain ⟨s, hs⟩ := exB N'[i].f0
  unfold bpGo
  rw [hs, data_B, size_B]
  by_cases ha : 0 ≤ N'[i].f1 ∧ N'[i].f1 ≤ (i : Int)
  ·
   rw [decide_eq_true ha]
   refine Ev.some_bind (Ev.ifT rfl ?_)
   by_cases hl : s.length ≤ 12
   ·
    obtain ⟨m, hm⟩ : ∃ m : Nat, N'[i].f1 = (m : Int) := ⟨N'[i].f1.toNat, by omega⟩
    have hml : m < acc.length := by omega
    have hmw := h3 _ (getD_mem hml)
    have hm12 := (wordL_iff.1 hmw).2
    rw [hm, rdB acc m hml, Int.toNat_natCast]
    refine Ev.ifF (by omega) (Ev.ifT (by omega) (Ev.ifT (by rw [List.length_map]; omega) (Ev.ifT (by rw [size_B]; omega) ?_)))
    rw [append_B, isWord_eq]
    by_cases hw : wordL (acc.getD m [] ++ s) = true
    ·
     rw [hw, if_pos ⟨by omega, by omega, hl, rfl⟩]
     refine Ev.some_bind (Ev.ifT rfl (Ev.ifT (by rw [List.length_map]; omega) ?_))
     rw [wrap64_succ i (by omega)]
     have := ih (i + 1) (acc ++ [acc.getD m [] ++ s]) (by omega) (by simp; omega) (fun p hp => by
      rcases List.mem_append.1 hp with hp | hp
      ·
       exact h3 p hp
      ·
       rw [List.mem_singleton.1 hp]; exact hw)
     rw [List.map_append, List.map_singleton] at this
     exact this
    ·
     rw [if_neg fun h => hw h.2.2.2, show wordL (acc.getD m [] ++ s) = false from by simpa using hw]
     exact Ev.some_bind (Ev.ifF Bool.false_ne_true (Ev.now _))
   ·
    rw [if_neg fun h => hl h.2.2.1]
    exact Ev.ifT (by omega) (Ev.now _)
  ·
   rw [decide_eq_false ha, if_neg (fun h => ha ⟨h.1, by omega⟩)]
   exact Ev.some_bind (Ev.ifF Bool.false_ne_true (Ev.now _))
def bpN (N : List Bd) : Option (List Txt) := if 1 ≤ N.length ∧ N.length ≤ 81 then bpGo (N.drop 1) [[]] else none
theorem bprefixes_ev (N : List Bd) : Ev (fun k => impl_Pressed_prefixes.f k N) (prefR (bpN N)) := by
 unfold impl_Pressed_prefixes.f bpN
 simp only [in_eq]
 by_cases h : 1 ≤ N.length ∧ N.length ≤ 81
 ·
  rw [if_pos h, decide_eq_true (show (1 : Int) ≤ (N.length : Int) ∧ (N.length : Int) ≤ 81 by omega)]
  refine Ev.some_bind (Ev.ifT rfl (Ev.ifT (by omega) (Ev.some_bind ?_)))
  exact bpref_loop (N.drop 1) (by rw [List.length_drop]; omega) (N.drop 1).length 0 [[]] (by omega) rfl (by simp; rfl)
 ·
  rw [if_neg h, decide_eq_false (show ¬ ((1 : Int) ≤ (N.length : Int) ∧ (N.length : Int) ≤ 81) by omega)]
  exact Ev.some_bind (Ev.ifF Bool.false_ne_true (Ev.now _))
theorem bpGo_ok : ∀ (r : List Bd) (acc ps : List Txt), bpGo r acc = some ps → (∀ p ∈ acc, wordL p = true) → (∀ p ∈ ps, wordL p = true) ∧ ps.length = acc.length + r.length
 | [], acc, ps, h, ha => by
  obtain rfl := Option.some.inj h
  exact ⟨ha, rfl⟩
 | n :: r, acc, ps, h, ha => by
  unfold bpGo at h
  by_cases hc : 0 ≤ n.f1 ∧ n.f1 < (acc.length : Int) ∧ n.f0.data.toList.length ≤ 12 ∧ wordL (acc.getD n.f1.toNat [] ++ n.f0.data.toList) = true
  ·
   rw [if_pos hc] at h
   obtain ⟨h1, h2⟩ := bpGo_ok r _ ps h (fun p hp => by
    rcases List.mem_append.1 hp with hp | hp
    ·
     exact ha p hp
    ·
     rw [List.mem_singleton.1 hp]; exact hc.2.2.2)
   exact ⟨h1, by rw [h2]; simp; omega⟩
  ·
   rw [if_neg hc] at h; cases h
theorem brs_get (P ws : List Txt) (i : Nat) (h : i < (brs P ws).length) : (brs P ws)[i] = brN (brL P ws ((stayQ P ws).getD i [])) := by
 have h2 : i < (stayQ P ws).length := by rwa [brs_length] at h
 simp only [brs, brsL, List.getElem_map, getD_lt [] h2]
theorem bpGo_tr {P : List Txt} (ws : List Txt) (hA : Asc P) (hC : Clo P) (hW : ∀ p ∈ P, wordL p = true) : ∀ (d i : Nat), i + d = (stayQ P ws).length → 0 < i → bpGo ((brs P ws).drop i) ((stayQ P ws).take i) = some (stayQ P ws) := by
 intro d
 induction d with
 | zero =>
  intro i h h0
  rw [List.drop_of_length_le (by rw [brs_length]; omega), List.take_of_length_le (by omega)]
  rfl
 | succ d ih =>
  intro i h h0
  have hi : i < (stayQ P ws).length := by omega
  have hb : i < (brs P ws).length := by rw [brs_length]; exact hi
  have hm := getD_mem hi
  have hne := stayQ_pos ws hA hC hi h0
  obtain ⟨u1, u2⟩ := stayQ_parent ws hA hC hi h0
  have hup := up_append ws hC (mem_stayQ.1 hm).1 hne
  have hw := hW _ (mem_stayQ.1 hm).1
  rw [List.drop_eq_getElem_cons hb, brs_get P ws i hb]
  unfold brL brN
  rw [if_neg hne, if_neg hne, bpGo]
  simp only [data_B, Int.toNat_natCast]
  have hg : ((stayQ P ws).take i).getD (placeL (stayQ P ws) (upL P ws ((stayQ P ws).getD i []))) [] = upL P ws ((stayQ P ws).getD i []) := by
   rw [List.getD_eq_getElem?_getD, List.getElem?_take_of_lt u1, ← List.getD_eq_getElem?_getD, u2]
  rw [hg, hup, if_pos ⟨by omega, by rw [List.length_take]; omega, by rw [List.length_drop]; have := (wordL_iff.1 hw).2; omega, hw⟩]
  have := ih (i + 1) (by omega) (by omega)
  rwa [take_succ_getD [] hi] at this
theorem bpN_tr {ws : List Txt} (h : OkW ws) (hl : (stayQ (preL ws) ws).length ≤ 81) : bpN (brs (preL ws) ws) = some (stayQ (preL ws) ws) := by
 obtain ⟨z1, z2⟩ := stayQ_zero ws (asc_preL ws) (clo_preL ws)
 have := bpGo_tr ws (asc_preL ws) (clo_preL ws) (fun p hp => preL_word h.word hp) ((stayQ (preL ws) ws).length - 1) 1 (by omega) (by omega)
 unfold bpN
 rw [if_pos (by rw [brs_length]; omega)]
 have e : (stayQ (preL ws) ws).take 1 = [[]] := by rw [take_succ_getD [] z1, z2]; rfl
 rwa [e] at this
def bwGo : List Bd → List Txt → List Txt
 | b :: r, t :: ps => if b.f2 = true then t :: bwGo r ps else bwGo r ps
 | _, _ => []
theorem bwGo_mem : ∀ (N : List Bd) (ps : List Txt) (w : Txt), w ∈ bwGo N ps → w ∈ ps
 | [], _, _, h => by simp [bwGo] at h
 | b :: r, [], _, h => by simp [bwGo] at h
 | b :: r, t :: ps, w, h => by
  rw [bwGo] at h
  split at h
  ·
   rcases List.mem_cons.1 h with rfl | h
   ·
    exact List.mem_cons_self
   ·
    exact List.mem_cons_of_mem _ (bwGo_mem r ps w h)
  ·
   exact List.mem_cons_of_mem _ (bwGo_mem r ps w h)
theorem bwGo_len : ∀ (N : List Bd) (ps : List Txt), (bwGo N ps).length ≤ N.length
 | [], _ => by simp [bwGo]
 | b :: r, [] => by simp [bwGo]
 | b :: r, t :: ps => by
  have := bwGo_len r ps
  rw [bwGo]
  split <;> simp <;> omega
theorem bwGo_tr (P ws : List Txt) : ∀ Q : List Txt, bwGo (Q.map fun p => brN (brL P ws p)) Q = Q.filter fun p => decide (p ∈ ws)
 | [] => rfl
 | p :: Q => by
  rw [List.map_cons, bwGo, bwGo_tr P ws Q, List.filter_cons]
  rfl
theorem brs_map (P ws : List Txt) : brs P ws = (stayQ P ws).map fun p => brN (brL P ws p) := by
 unfold brs brsL
 rw [List.map_map]
 rfl
theorem ofWords_ev (W : List Txt) (hW : W.all wordL = true) (hl : W.length ≤ 1000000) : Ev (fun k => impl_ofWords.f k (W.map B)) (if (setL W).length ≤ 40 then (trN (preL (setL W)) (setL W), true) else ([], false)) := by
 unfold impl_ofWords.f
 rw [set_eq W (by omega)]
 refine Ev.some_bind ?_
 rw [List.length_map]
 by_cases h : (setL W).length ≤ 40
 ·
  rw [if_pos h]
  exact Ev.ifF (by omega) (Ev.bind (trieOf_ev (okW_setL hW h)) (Ev.now _))
 ·
  rw [if_neg h]
  exact Ev.ifT (by omega) (Ev.now _)
def IsPr (N : List Bd) : Prop := ∃ ws, OkW ws ∧ N = brs (preL ws) ws ∧ N.length ≤ 81
theorem IsPr.pos {N : List Bd} (h : IsPr N) : 1 ≤ N.length ∧ N.length ≤ 81 := by
 obtain ⟨ws, h, rfl, h2⟩ := h
 refine ⟨?_, h2⟩
 rw [brs_length]
 exact (stayQ_zero ws (asc_preL ws) (clo_preL ws)).1
theorem open_loop (N : List Bd) (ps : List Txt) (hN : N.length ≤ 1000000) (hp : ps.length = N.length) (r : List S76 × Bool)
  (hr : Ev (fun k => impl_Pressed_open.l0 k (ps.map B) ((bwGo N ps).map B) N (N.length : Int) (N.length : Int) N) r) : ∀ (d i : Nat) (acc : List Txt), i + d = N.length → acc.length ≤ i → acc ++ bwGo (N.drop i) (ps.drop i) = bwGo N ps →
  Ev (fun k => impl_Pressed_open.l0 k (ps.map B) (acc.map B) N (N.length : Int) (i : Int) N) r := by
 intro d
 induction d with
 | zero =>
  intro i acc h1 h2 h3
  obtain rfl : i = N.length := by omega
  rw [List.drop_of_length_le (Nat.le_refl _)] at h3
  rw [show acc = bwGo N ps from by rw [← h3]; simp [bwGo]]
  exact hr
 | succ d ih =>
  intro i acc h1 h2 h3
  have hi : i < N.length := by omega
  have hpi : i < ps.length := by omega
  refine Ev.step (fun k => impl_Pressed_open.l0.eq_2 ..) (Ev.ifT (by omega) (Ev.ifT (by omega) (Ev.ifT (by omega) ?_)))
  rw [List.drop_eq_getElem_cons hi, drop_cons_getD [] hpi, bwGo] at h3
  rw [rd_getB N i hi, wrap64_succ i (by omega)]
  by_cases hf : N[i].f2 = true
  ·
   rw [if_pos hf] at h3
   refine Ev.ifT hf (Ev.ifT (by rw [List.length_map]; omega) (Ev.ifT (by rw [List.length_map]; omega) ?_))
   rw [rdB ps i hpi]
   have := ih (i + 1) (acc ++ [ps.getD i []]) (by omega) (by simp; omega) (by rw [List.append_assoc]; exact h3)
   rw [List.map_append, List.map_singleton] at this
   exact this
  ·
   rw [if_neg hf] at h3
   exact Ev.ifF hf (ih (i + 1) acc (by omega) (by omega) h3)
theorem open_ev (N : List Bd) : (∀ ws, OkW ws → N = brs (preL ws) ws → N.length ≤ 81 → Ev (fun k => impl_Pressed_open.f k N) (trN (preL ws) ws, true)) ∧ (¬ IsPr N → Ev (fun k => impl_Pressed_open.f k N) ([], false)) := by
 have fin : ∀ ps W : List Txt, W.all wordL = true → W.length ≤ 1000000 → N.length ≤ 81 → Ev (fun k => impl_Pressed_open.l0 k (ps.map B) (W.map B) N (N.length : Int) (N.length : Int) N) (if (setL W).length ≤ 40 ∧ brs (preL (setL W)) (setL W) = N then (trN (preL (setL W)) (setL W), true) else ([], false)) := by
  intro ps W hW hl hN
  have h1 := ofWords_ev W hW hl
  refine Ev.step (fun k => impl_Pressed_open.l0.eq_2 ..) (Ev.ifF (by omega) (Ev.bind h1 ?_))
  by_cases h40 : (setL W).length ≤ 40
  ·
   rw [if_pos h40]
   have hok := okW_setL hW h40
   have hlen : (brs (preL (setL W)) (setL W)).length ≤ 4611686018427387903 := by
    rw [brs_length]
    have h2 : (stayQ (preL (setL W)) (setL W)).length ≤ (preL (setL W)).length := List.length_filter_le _ _
    have := hok.pre
    omega
   refine Ev.ifT rfl (Ev.bind (press_ev hok) (Ev.bind (equalB_ev _ _ hlen) ?_))
   by_cases he : brs (preL (setL W)) (setL W) = N
   ·
    rw [if_pos (show (setL W).length ≤ 40 ∧ brs (preL (setL W)) (setL W) = N from ⟨h40, he⟩)]
    exact Ev.ifT (decide_eq_true he) (Ev.now _)
   ·
    rw [if_neg (show ¬ ((setL W).length ≤ 40 ∧ brs (preL (setL W)) (setL W) = N) from fun h => he h.2)]
    exact Ev.ifF (by rw [decide_eq_false he]; exact Bool.false_ne_true) (Ev.now _)
  ·
   rw [if_neg h40, if_neg (show ¬ ((setL W).length ≤ 40 ∧ brs (preL (setL W)) (setL W) = N) from fun h => h40 h.1)]
   exact Ev.ifF Bool.false_ne_true (Ev.now _)
 have hpre := bprefixes_ev N
 constructor
 ·
  intro ws h he hl
  have hl2 : (stayQ (preL ws) ws).length ≤ 81 := by rw [← brs_length, ← he]; exact hl
  unfold impl_Pressed_open.f
  rw [he] at hpre
  rw [bpN_tr h hl2] at hpre
  rw [he]
  refine Ev.bind hpre (Ev.ifT rfl ?_)
  have hb : bwGo (brs (preL ws) ws) (stayQ (preL ws) ws) = ws := by rw [brs_map, bwGo_tr, filter_stayQ h.asc]
  have h1 := fin (stayQ (preL ws) ws) ws (List.all_eq_true.2 h.word) (by have := h.len; omega) hl
  rw [setL_of_asc h.asc, if_pos ⟨h.len, he.symm⟩, he] at h1
  refine open_loop (brs (preL ws) ws) (stayQ (preL ws) ws) (by rw [brs_length]; omega) (by rw [brs_length]) _ (by rw [hb]; exact h1) (brs (preL ws) ws).length 0 [] (by omega) (by simp) (by simp)
 ·
  intro hn
  unfold impl_Pressed_open.f
  refine Ev.bind hpre ?_
  cases hc : bpN N with
  | none => exact Ev.ifF Bool.false_ne_true (Ev.now _)
  | some ps =>
   refine Ev.ifT rfl ?_
   unfold bpN at hc
   by_cases hl : 1 ≤ N.length ∧ N.length ≤ 81
   ·
    rw [if_pos hl] at hc
    obtain ⟨h1, h2⟩ := bpGo_ok _ _ _ hc (by simp; rfl)
    have h3 : ps.length = N.length := by rw [h2, List.length_drop, List.length_singleton]; omega
    have hW : (bwGo N ps).all wordL = true := List.all_eq_true.2 fun w hw => h1 w (bwGo_mem _ _ _ hw)
    have hWl := bwGo_len N ps
    have h4 := fin ps (bwGo N ps) hW (by omega) hl.2
    rw [if_neg] at h4
    ·
     exact open_loop N ps (by omega) h3 _ h4 N.length 0 [] (by omega) (by simp) (by simp)
    ·
     rintro ⟨a1, a2⟩
     exact hn ⟨_, okW_setL hW a1, a2.symm, hl.2⟩
   ·
    rw [if_neg hl] at hc; cases hc
theorem wordL_suf {p s : Txt} (h : wordL (p ++ s) = true) : wordL s = true := by
 obtain ⟨h1, h2⟩ := wordL_iff.1 h
 rw [List.length_append] at h2
 exact wordL_iff.2 ⟨fun c hc => h1 c (List.mem_append.2 (.inr hc)), by omega⟩
theorem l4Prefix_ex (N : List Bd) (hN : ∀ b ∈ N, b.f0.size ≤ 1000000000) : ∀ (d : Nat) (x1 : Int) (s : Txt), x1.toNat ≤ d → x1 < N.length → s.length ≤ 24 → ∃ r : Txt, r.length ≤ 24 ∧ Ev (fun k => spec_l4Prefix.l0 k x1 (B s) N) (B r) := by
 have last : ∀ (x1 : Int) (s : Txt), s.length ≤ 24 → ∃ r : Txt, r.length ≤ 24 ∧ Ev (fun k => spec_l4Prefix.j1 k x1 (B s) false N) (B r) := by
  intro x1 s hs
  by_cases h : x1 = 0
  ·
   exact ⟨s, hs, Ev.step (fun k => spec_l4Prefix.j1.eq_2 ..) (Ev.ifF Bool.false_ne_true (Ev.ifT h (Ev.now _)))⟩
  ·
   exact ⟨[63], by simp, Ev.step (fun k => spec_l4Prefix.j1.eq_2 ..) (Ev.ifF Bool.false_ne_true (Ev.ifF h (Ev.now _)))⟩
 intro d
 induction d with
 | zero =>
  intro x1 s h1 h2 h3
  obtain ⟨r, hr, he⟩ := last x1 s h3
  exact ⟨r, hr, Ev.step (fun k => spec_l4Prefix.l0.eq_2 ..) (Ev.ifF (by omega) he)⟩
 | succ d ih =>
  intro x1 s h1 h2 h3
  by_cases h0 : x1 > 0
  ·
   by_cases hs : s.length ≤ 12
   ·
    obtain ⟨m, hm⟩ : ∃ m : Nat, x1 = (m : Int) := ⟨x1.toNat, by omega⟩
    subst hm
    have hml : m < N.length := by omega
    have hsz := hN _ (List.getElem_mem hml)
    obtain ⟨t, ht⟩ := exB N[m].f0
    rw [ht, size_B] at hsz
    have go : ∀ r : ByteArray, Ev (fun k => if (N[m].f1) ≥ (m : Int) then (some (⟨#[63]⟩ : ByteArray)) else (if (N[m].f0).toList = ([] : List UInt8) then (some (⟨#[63]⟩ : ByteArray)) else ((spec_l2Word.f k (N[m].f0)).bind fun t109 => (if t109 = true then (if (N[m].f0).size + (B s).size ≤ 9223372036854775807 then (spec_l4Prefix.l0 k (N[m].f1) ((N[m].f0) ++ B s) N) else (none)) else (some (⟨#[63]⟩ : ByteArray)))))) r → Ev (fun k => spec_l4Prefix.l0 k (m : Int) (B s) N) r := by
     intro r hr
     refine Ev.step (fun k => spec_l4Prefix.l0.eq_2 ..) (Ev.ifT h0 ?_)
     rw [size_B, decide_eq_true (show (s.length : Int) ≤ 12 by omega)]
     refine Ev.step (fun k => spec_l4Prefix.j1.eq_2 ..) (Ev.ifT rfl (Ev.ifT (by omega) (Ev.ifT (by omega) ?_)))
     rw [rd_getB N m hml]
     exact hr
    by_cases hp : N[m].f1 ≥ (m : Int)
    ·
     exact ⟨[63], by simp, go _ (Ev.ifT hp (Ev.now _))⟩
    ·
     by_cases he : t = []
     ·
      refine ⟨[63], by simp, go _ (Ev.ifF hp (Ev.ifT ?_ (Ev.now _)))⟩
      rw [ht, toList_B]; exact he
     ·
      have hwd := l2Word_ev t (by omega)
      by_cases hw : wordL t = true
      ·
       rw [hw] at hwd
       have h12 := (wordL_iff.1 hw).2
       obtain ⟨r, hr, hev⟩ := ih N[m].f1 (t ++ s) (by omega) (by omega) (by rw [List.length_append]; omega)
       refine ⟨r, hr, go _ (Ev.ifF hp (Ev.ifF ?_ ?_))⟩
       ·
        rw [ht, toList_B]; exact he
       ·
        rw [ht, append_B, size_B, size_B]
        exact Ev.bind hwd (Ev.ifT rfl (Ev.ifT (by omega) hev))
      ·
       have hwf : wordL t = false := by simpa using hw
       rw [hwf] at hwd
       refine ⟨[63], by simp, go _ (Ev.ifF hp (Ev.ifF ?_ ?_))⟩
       ·
        rw [ht, toList_B]; exact he
       ·
        rw [ht]
        exact Ev.bind hwd (Ev.ifF Bool.false_ne_true (Ev.now _))
   ·
    obtain ⟨r, hr, he⟩ := last x1 s h3
    refine ⟨r, hr, Ev.step (fun k => spec_l4Prefix.l0.eq_2 ..) (Ev.ifT h0 ?_)⟩
    rw [size_B, decide_eq_false (show ¬ (s.length : Int) ≤ 12 by omega)]
    exact he
  ·
   obtain ⟨r, hr, he⟩ := last x1 s h3
   exact ⟨r, hr, Ev.step (fun k => spec_l4Prefix.l0.eq_2 ..) (Ev.ifF h0 he)⟩
theorem l4Prefix_up {P : List Txt} (ws : List Txt) (hA : Asc P) (hC : Clo P) (hW : ∀ p ∈ P, wordL p = true) : ∀ (n : Nat) (t s : Txt), t.length ≤ n → t ∈ stayQ P ws → (t ++ s).length ≤ 12 →
  Ev (fun k => spec_l4Prefix.l0 k ((placeL (stayQ P ws) t : Nat) : Int) (B s) (brs P ws)) (B (t ++ s)) := by
 have hQA := asc_stayQ ws hA
 obtain ⟨q1, q2⟩ := stayQ_zero ws hA hC
 have hnil : ∀ s : Txt, Ev (fun k => spec_l4Prefix.l0 k ((placeL (stayQ P ws) [] : Nat) : Int) (B s) (brs P ws)) (B ([] ++ s)) := by
  intro s
  have h0 : placeL (stayQ P ws) [] = 0 := by have := placeL_get hQA q1; rwa [q2] at this
  rw [h0, List.nil_append]
  exact Ev.step (fun k => spec_l4Prefix.l0.eq_2 ..) (Ev.ifF (by omega) (Ev.step (fun k => spec_l4Prefix.j1.eq_2 ..) (Ev.ifF Bool.false_ne_true (Ev.ifT rfl (Ev.now _)))))
 intro n
 induction n with
 | zero =>
  intro t s h1 h2 h3
  have := List.eq_nil_of_length_eq_zero (Nat.le_zero.1 h1)
  subst this
  exact hnil s
 | succ n ih =>
  intro t s h1 h2 h3
  by_cases hne : t = []
  ·
   subst hne; exact hnil s
  ·
   obtain ⟨z1, z2⟩ := placeL_mem h2
   have h0 : 0 < placeL (stayQ P ws) t := by
    rcases Nat.eq_zero_or_pos (placeL (stayQ P ws) t) with e | e
    ·
     rw [e, q2] at z2; exact absurd z2.symm hne
    ·
     exact e
   have hP := (mem_stayQ.1 h2).1
   obtain ⟨u1, u2, u3, u4⟩ := upL_spec ws hC hP hne
   have hpar := stayQ_parent ws hA hC z1 h0
   rw [z2] at hpar
   have hup := up_append ws hC hP hne
   have hdn := drop_ne ws hC hP hne
   rw [List.length_append] at h3
   have hwd : wordL (t.drop (upL P ws t).length) = true := by
    have := hW t hP
    rw [← hup] at this
    exact wordL_suf this
   have hl := l2Word_ev (t.drop (upL P ws t).length) (by rw [List.length_drop]; omega)
   rw [hwd] at hl
   refine Ev.step (fun k => spec_l4Prefix.l0.eq_2 ..) (Ev.ifT (by omega) ?_)
   rw [size_B, decide_eq_true (show (s.length : Int) ≤ 12 by omega)]
   refine Ev.step (fun k => spec_l4Prefix.j1.eq_2 ..) (Ev.ifT rfl (Ev.ifT (by omega) (Ev.ifT (by rw [brs_length]; omega) ?_)))
   rw [rdBr P ws _ z1, z2]
   unfold brN brL
   rw [if_neg hne, if_neg hne]
   refine Ev.ifF (by show ¬ ((placeL (stayQ P ws) (upL P ws t) : Nat) : Int) ≥ ((placeL (stayQ P ws) t : Nat) : Int); omega) (Ev.ifF (by rw [toList_B]; exact hdn) (Ev.bind hl (Ev.ifT rfl (Ev.ifT (by rw [size_B, size_B, List.length_drop]; omega) ?_))))
   rw [append_B]
   have := ih (upL P ws t) (t.drop (upL P ws t).length ++ s) (by omega) (up_stayQ ws hC h2 hne) (by rw [← List.append_assoc, hup, List.length_append]; omega)
   rw [← List.append_assoc, hup] at this
   exact this
theorem l4Prefix_ev {ws : List Txt} (h : OkW ws) {i : Nat} (hi : i < (stayQ (preL ws) ws).length) : Ev (fun k => spec_l4Prefix.f k (brs (preL ws) ws) (i : Int)) (B ((stayQ (preL ws) ws).getD i [])) := by
 have hm := getD_mem hi
 have hW := preL_word h.word (mem_stayQ.1 hm).1
 have := l4Prefix_up ws (asc_preL ws) (clo_preL ws) (fun p hp => preL_word h.word hp) _ ((stayQ (preL ws) ws).getD i []) [] (Nat.le_refl _) hm (by rw [List.append_nil]; exact (wordL_iff.1 hW).2)
 rw [placeL_get (asc_stayQ ws (asc_preL ws)) hi, List.append_nil] at this
 exact this
theorem l4Open_fin (N : List Bd) (hN : N.length ≤ 81) (W : List Txt) (hl : W.length ≤ 81) (hw : ∀ w ∈ W, w.length ≤ 24) :
  Ev (fun k => spec_l4Open.l0 k (W.map B) (N.length : Int) N) (if W.all wordL = true ∧ (setL W).length ≤ 40 ∧ brs (preL (setL W)) (setL W) = N then (trN (preL (setL W)) (setL W), true) else ([], false)) := by
 refine Ev.step (fun k => spec_l4Open.l0.eq_2 ..) (Ev.ifF (by omega) (Ev.bind (l2Set_ev (b := 24) W (by omega) hw) ?_))
 by_cases ha : W.all wordL = true
 ·
  rw [if_pos ha]
  by_cases h40 : (setL W).length ≤ 40
  ·
   have hok := okW_setL ha h40
   have hlen : (brs (preL (setL W)) (setL W)).length ≤ 4611686018427387903 := by
    rw [brs_length]
    have h2 : (stayQ (preL (setL W)) (setL W)).length ≤ (preL (setL W)).length := List.length_filter_le _ _
    have := hok.pre
    omega
   refine Ev.ifT (by simpa using h40) (Ev.bind (l2Of_ev hok) (Ev.bind (l4Press_ev hok) (Ev.bind (l4Same_ev _ _ hlen) ?_)))
   by_cases he : brs (preL (setL W)) (setL W) = N
   ·
    rw [if_pos (show W.all wordL = true ∧ (setL W).length ≤ 40 ∧ brs (preL (setL W)) (setL W) = N from ⟨ha, h40, he⟩)]
    exact Ev.ifT (decide_eq_true he) (Ev.now _)
   ·
    rw [if_neg (show ¬ (W.all wordL = true ∧ (setL W).length ≤ 40 ∧ brs (preL (setL W)) (setL W) = N) from fun h => he h.2.2)]
    exact Ev.ifF (by rw [decide_eq_false he]; exact Bool.false_ne_true) (Ev.now _)
  ·
   rw [if_neg (show ¬ (W.all wordL = true ∧ (setL W).length ≤ 40 ∧ brs (preL (setL W)) (setL W) = N) from fun h => h40 h.2.1)]
   exact Ev.ifF (by simpa using h40) (Ev.now _)
 ·
  rw [if_neg ha, if_neg (show ¬ (W.all wordL = true ∧ (setL W).length ≤ 40 ∧ brs (preL (setL W)) (setL W) = N) from fun h => ha h.1)]
  exact Ev.ifF Bool.false_ne_true (Ev.now _)
theorem l4Open_ex (N : List Bd) (hN : N.length ≤ 81) (hb : ∀ b ∈ N, b.f0.size ≤ 1000000000) (hn : ¬ IsPr N) : ∀ (d i : Nat) (acc : List Txt), i + d = N.length → acc.length ≤ i → (∀ w ∈ acc, w.length ≤ 24) →
  Ev (fun k => spec_l4Open.l0 k (acc.map B) (i : Int) N) ([], false) := by
 intro d
 induction d with
 | zero =>
  intro i acc h1 h2 h3
  obtain rfl : i = N.length := by omega
  have := l4Open_fin N hN acc (by omega) h3
  rw [if_neg] at this
  ·
   exact this
  ·
   rintro ⟨a1, a2, a3⟩
   exact hn ⟨_, okW_setL a1 a2, a3.symm, hN⟩
 | succ d ih =>
  intro i acc h1 h2 h3
  have hi : i < N.length := by omega
  refine Ev.step (fun k => spec_l4Open.l0.eq_2 ..) (Ev.ifT (by omega) (Ev.ifT (by omega) ?_))
  rw [wrap64_succ i (by omega)]
  by_cases hf : (rd_T60 N (i : Int)).f2 = true
  ·
   obtain ⟨r, hr, he⟩ := l4Prefix_ex N hb i (i : Int) [] (by omega) (by omega) (by simp)
   have := ih (i + 1) (acc ++ [r]) (by omega) (by simp; omega) (fun w hw => by
    rcases List.mem_append.1 hw with hw | hw
    ·
     exact h3 w hw
    ·
     rw [List.mem_singleton.1 hw]; exact hr)
   rw [List.map_append, List.map_singleton] at this
   exact Ev.ifT hf (Ev.bind he (Ev.ifT (by rw [List.length_map]; omega) this))
  ·
   exact Ev.ifF hf (ih (i + 1) acc (by omega) (by omega) h3)
theorem l4Open_tr {ws : List Txt} (h : OkW ws) (hl : (stayQ (preL ws) ws).length ≤ 81) : ∀ (d i : Nat) (acc : List Txt), i + d = (stayQ (preL ws) ws).length → acc.length ≤ i → acc ++ ((stayQ (preL ws) ws).drop i).filter (fun p => decide (p ∈ ws)) = ws →
  Ev (fun k => spec_l4Open.l0 k (acc.map B) (i : Int) (brs (preL ws) ws)) (trN (preL ws) ws, true) := by
 have h40 := h.len
 intro d
 induction d with
 | zero =>
  intro i acc h1 h2 h3
  rw [List.drop_of_length_le (by omega), List.filter_nil, List.append_nil] at h3
  subst h3
  have := l4Open_fin (brs (preL acc) acc) (by rw [brs_length]; exact hl) acc (by omega) (fun w hw => by have := h.le w hw; omega)
  rw [setL_of_asc h.asc, if_pos ⟨List.all_eq_true.2 h.word, h.len, rfl⟩, brs_length] at this
  rw [show i = (stayQ (preL acc) acc).length from by omega]
  exact this
 | succ d ih =>
  intro i acc h1 h2 h3
  have hi : i < (stayQ (preL ws) ws).length := by omega
  rw [drop_cons_getD [] hi, List.filter_cons] at h3
  refine Ev.step (fun k => spec_l4Open.l0.eq_2 ..) (Ev.ifT (by rw [brs_length]; omega) (Ev.ifT (by omega) ?_))
  rw [wrap64_succ i (by omega), rdBr _ ws i hi]
  by_cases hm : (stayQ (preL ws) ws).getD i [] ∈ ws
  ·
   rw [if_pos (decide_eq_true hm)] at h3
   have := ih (i + 1) (acc ++ [(stayQ (preL ws) ws).getD i []]) (by omega) (by simp; omega) (by rw [List.append_assoc]; exact h3)
   rw [List.map_append, List.map_singleton] at this
   exact Ev.ifT (decide_eq_true hm) (Ev.bind (l4Prefix_ev h hi) (Ev.ifT (by rw [List.length_map]; omega) this))
  ·
   rw [if_neg (by rw [decide_eq_false hm]; exact Bool.false_ne_true)] at h3
   exact Ev.ifF (by show ¬ decide _ = true; rw [decide_eq_false hm]; exact Bool.false_ne_true) (ih (i + 1) acc (by omega) (by omega) h3)
theorem open_both (N : List Bd) (hb : ∀ b ∈ N, b.f0.size ≤ 1000000000) :
  (∃ ws, OkW ws ∧ N = brs (preL ws) ws ∧ (stayQ (preL ws) ws).length ≤ 81 ∧ Ev (fun k => spec_l4Open.f k N) (trN (preL ws) ws, true) ∧ Ev (fun k => impl_Pressed_open.f k N) (trN (preL ws) ws, true)) ∨
  (Ev (fun k => spec_l4Open.f k N) ([], false) ∧ Ev (fun k => impl_Pressed_open.f k N) ([], false)) := by
 obtain ⟨o1, o2⟩ := open_ev N
 by_cases hn : IsPr N
 ·
  have hpos := hn.pos
  obtain ⟨ws, h, he, hl⟩ := hn
  have hl2 : (stayQ (preL ws) ws).length ≤ 81 := by rw [← brs_length, ← he]; exact hl
  refine .inl ⟨ws, h, he, hl2, ?_, o1 ws h he hl⟩
  unfold spec_l4Open.f
  simp only [l1In_eq]
  rw [decide_eq_true (show (1 : Int) ≤ (N.length : Int) ∧ (N.length : Int) ≤ 81 by omega), he]
  exact Ev.some_bind (Ev.ifT rfl (l4Open_tr h hl2 (stayQ (preL ws) ws).length 0 [] (by omega) (by simp) (by rw [List.drop_zero, List.nil_append]; exact filter_stayQ h.asc)))
 ·
  refine .inr ⟨?_, o2 hn⟩
  unfold spec_l4Open.f
  simp only [l1In_eq]
  by_cases hl : (1 : Int) ≤ (N.length : Int) ∧ (N.length : Int) ≤ 81
  ·
   rw [decide_eq_true hl]
   exact Ev.some_bind (Ev.ifT rfl (l4Open_ex N (by omega) hb hn N.length 0 [] (by omega) (by simp) (by simp)))
  ·
   rw [decide_eq_false hl]
   exact Ev.some_bind (Ev.ifF Bool.false_ne_true (Ev.now _))
def toB (l : List S71) : List Bd := l.map fun x => ⟨x.f0, x.f1, x.f2⟩
theorem toB_length (l : List S71) : (toB l).length = l.length := by simp [toB]
theorem rd_getL (N : List S71) (i : Nat) (h : i < N.length) : rd_T71 N (i : Int) = N[i] := by
 unfold rd_T71
 rw [Int.toNat_natCast, getD_lt _ h]
theorem szP_loop (l : List S71) (hl : l.length ≤ 1048576) (hs : ∀ x ∈ l, x.f0.size ≤ 9223372036854775807) : ∀ (d i : Nat) (v : Int), i + d = l.length → 0 ≤ v → v ≤ 1048576 → ∃ r : Int, Ev (fun k => laws_szBranchS.l0 k l v (i : Int)) r ∧ r ≤ 1048576 ∧ (0 ≤ r → ∀ x ∈ l.drop i, x.f0.size ≤ 1048576) := by
 intro d
 induction d with
 | zero =>
  intro i v h h0 h1
  rw [List.drop_of_length_le (by omega)]
  exact ⟨v, Ev.step (fun k => laws_szBranchS.l0.eq_2 ..) (Ev.ifF (by omega) (Ev.now _)), h1, fun _ x hx => by simp at hx⟩
 | succ d ih =>
  intro i v h h0 h1
  have hi : i < l.length := by omega
  have hx := hs _ (List.getElem_mem hi)
  rw [List.drop_eq_getElem_cons hi]
  have go : ∀ r : Int, Ev (fun k => (laws_szBranch.f (l[i].f0) (l[i].f1) (l[i].f2) v).bind fun t103 => (if t103 < 0 then (some (-1)) else (laws_szBranchS.l0 k l t103 (wrap64 ((i : Int) + 1))))) r → Ev (fun k => laws_szBranchS.l0 k l v (i : Int)) r := by
   intro r hr
   refine Ev.step (fun k => laws_szBranchS.l0.eq_2 ..) (Ev.ifT (by omega) (Ev.ifT (by omega) ?_))
   rw [rd_getL l i hi]
   exact hr
  have hw : wrap64 (v - (l[i].f0.size : Int)) = v - (l[i].f0.size : Int) := wrap64_id (by omega) (by omega)
  by_cases hn : v - (l[i].f0.size : Int) < 0
  ·
   refine ⟨-1, go _ ?_, by omega, fun h => by omega⟩
   unfold laws_szBranch.f
   rw [hw, if_pos hn]
   exact Ev.some_bind (Ev.ifT (by omega) (Ev.now _))
  ·
   obtain ⟨r, r1, r2, r3⟩ := ih (i + 1) (v - (l[i].f0.size : Int)) (by omega) (by omega) (by omega)
   refine ⟨r, go _ ?_, r2, fun h x hx => ?_⟩
   ·
    unfold laws_szBranch.f
    rw [hw, if_neg hn]
    refine Ev.some_bind (Ev.ifF (by omega) ?_)
    rw [wrap64_succ i (by omega)]
    exact r1
   ·
    rcases List.mem_cons.1 hx with rfl | hx
    ·
     omega
    ·
     exact r3 h x hx
theorem szP_ev (l : List S71) (hl : l.length ≤ 9223372036854775807) (hs : ∀ x ∈ l, x.f0.size ≤ 9223372036854775807) : ∃ r : Int, Ev (fun k => laws_szPressed.f k l 1048576) r ∧ (0 ≤ r → l.length ≤ 1048576 ∧ ∀ x ∈ l, x.f0.size ≤ 1048576) := by
 have fin : ∀ r : Int, Ev (fun k => laws_szBranchS.f k l 1048576) r → Ev (fun k => laws_szPressed.f k l 1048576) (if r < 0 then -1 else r) := by
  intro r hr
  unfold laws_szPressed.f
  refine Ev.bind hr ?_
  by_cases h : r < 0
  ·
   have e : (if r < 0 then (-1 : Int) else r) = -1 := if_pos h
   rw [e]; exact Ev.ifT h (Ev.now _)
  ·
   have e : (if r < 0 then (-1 : Int) else r) = r := if_neg h
   rw [e]; exact Ev.ifF h (Ev.now _)
 have hw : wrap64 (1048576 - (l.length : Int)) = 1048576 - (l.length : Int) := wrap64_id (by omega) (by omega)
 by_cases h : l.length ≤ 1048576
 ·
  obtain ⟨r, r1, r2, r3⟩ := szP_loop l h hs l.length 0 (1048576 - (l.length : Int)) (by omega) (by omega) (by omega)
  refine ⟨_, fin r ?_, fun h0 => ⟨h, ?_⟩⟩
  ·
   unfold laws_szBranchS.f
   rw [hw]
   exact Ev.ifF (by omega) r1
  ·
   rw [List.drop_zero] at r3
   refine r3 ?_
   by_cases hr : r < 0
   ·
    rw [if_pos hr] at h0; omega
   ·
    omega
 ·
  refine ⟨_, fin (-1) ?_, fun h0 => ?_⟩
  ·
   unfold laws_szBranchS.f
   rw [hw]
   exact Ev.ifT (by omega) (Ev.now _)
  ·
   rw [if_pos (by omega)] at h0; omega
theorem toBranchS_loop (l : List S71) (hl : l.length ≤ 1048576) : ∀ (d i : Nat), i + d = l.length → Ev (fun k => laws_toBranchS.l0 k l ((toB l).take i ++ List.replicate ((toB l).length - i) z60) (i : Int)) (toB l) := by
 intro d
 induction d with
 | zero =>
  intro i h
  rw [List.take_of_length_le (by rw [toB_length]; omega), show (toB l).length - i = 0 from by rw [toB_length]; omega, List.replicate_zero, List.append_nil]
  exact Ev.step (fun k => laws_toBranchS.l0.eq_2 ..) (Ev.ifF (by omega) (Ev.now _))
 | succ d ih =>
  intro i h
  have hi : i < l.length := by omega
  have hi2 : i < (toB l).length := by rw [toB_length]; exact hi
  have hlen : ((toB l).take i ++ List.replicate ((toB l).length - i) z60).length = l.length := by
   rw [List.length_append, List.length_take, List.length_replicate, toB_length]; omega
  refine Ev.step (fun k => laws_toBranchS.l0.eq_2 ..) (Ev.ifT (by omega) (Ev.ifT (by omega) ?_))
  unfold laws_toBranch.f
  refine Ev.some_bind (Ev.ifT (by rw [hlen]; omega) ?_)
  have hx : (⟨(rd_T71 l (i : Int)).f0, (rd_T71 l (i : Int)).f1, (rd_T71 l (i : Int)).f2⟩ : Bd) = (toB l).getD i z60 := by
   rw [rd_getL l i hi, getD_lt _ hi2]
   simp only [toB, List.getElem_map]
  rw [hx, Int.toNat_natCast, fill_set _ _ _ hi2, wrap64_succ i (by omega)]
  exact ih (i + 1) (by omega)
theorem toPressed_ev (l : List S71) (hl : l.length ≤ 1048576) : Ev (fun k => laws_toPressed.f k l) (toB l) := by
 unfold laws_toPressed.f laws_toBranchS.f
 refine Ev.bind (f := fun k t => some t) (Ev.ifT (by omega) (Ev.ifT (by omega) ?_)) (Ev.now _)
 have := toBranchS_loop l hl l.length 0 (by omega)
 rw [List.take_zero, List.nil_append, toB_length, Nat.sub_zero] at this
 exact this
theorem eqBranch_self (a : ByteArray) (b : Int) (c : Bool) : laws_eqBranch.f a b c a b c = some true := by
 unfold laws_eqBranch.f
 rw [if_pos rfl, if_pos rfl, if_neg (by simp)]
theorem eqBranchS_loop (N : List Bd) (hN : N.length ≤ 4611686018427387903) : ∀ (d i : Nat), i + d = N.length → Ev (fun k => laws_eqBranchS.l0 k N N (i : Int)) true := by
 intro d
 induction d with
 | zero => intro i h; exact Ev.step (fun k => laws_eqBranchS.l0.eq_2 ..) (Ev.ifF (by omega) (Ev.now _))
 | succ d ih =>
  intro i h
  refine Ev.step (fun k => laws_eqBranchS.l0.eq_2 ..) (Ev.ifT (by omega) (Ev.ifT (by omega) (Ev.ifT (by omega) ?_)))
  rw [eqBranch_self]
  refine Ev.some_bind (Ev.ifT rfl ?_)
  rw [wrap64_succ i (by omega)]
  exact ih (i + 1) (by omega)
theorem eqPressed_ev (N : List Bd) (hN : N.length ≤ 4611686018427387903) : Ev (fun k => laws_eqPressed.f k N N) true := by
 unfold laws_eqPressed.f laws_eqBranchS.f
 exact Ev.bind (f := fun k t => if t = true then some true else some false) (Ev.ifT rfl (eqBranchS_loop N hN N.length 0 (by omega))) (Ev.ifT rfl (Ev.now _))
theorem toB_small {l : List S71} (h : ∀ x ∈ l, x.f0.size ≤ 1048576) : ∀ b ∈ toB l, b.f0.size ≤ 1000000000 := by
 intro b hb
 obtain ⟨x, hx, rfl⟩ := List.mem_map.1 hb
 have := h x hx
 show x.f0.size ≤ 1000000000
 omega
end Go.Proofs.YtfhffcefpnkllaaGreatDoor.L
