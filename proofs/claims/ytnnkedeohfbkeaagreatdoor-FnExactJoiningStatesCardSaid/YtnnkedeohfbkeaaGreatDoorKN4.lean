/-
  Part 5 of what several laws reach in common: functions of the program, each with its contract, and plain lemmas.
  Conditions: those of the given statement, no others.
-/
import Derived.Test.YtnnkedeohfbkeaaGreatDoorKNW0
import Derived.Test.YtnnkedeohfbkeaaGreatDoorKN0
import Derived.Test.YtnnkedeohfbkeaaGreatDoorKN3
import Derived.Test.YtnnkedeohfbkeaaGreatDoorKN2
import Derived.Test.YtnnkedeohfbkeaaGreatDoorKN1
set_option linter.unusedVariables false
set_option linter.unusedSimpArgs false
set_option maxHeartbeats 8000000
set_option maxRecDepth 100000
namespace Go.Proofs.YtnnkedeohfbkeaaGreatDoor.L
open Go.RowKit Go.Proofs.YtnnkedeohfbkeaaGreatDoor.P Go.Proofs.YtnnkedeohfbkeaaGreatDoor.M Go.Proofs.YtnnkedeohfbkeaaGreatDoorW.PrintWords Go.Proofs.YtnnkedeohfbkeaaGreatDoorW.PrintLast Go.Proofs.YtnnkedeohfbkeaaGreatDoorW.PrintMore
namespace Mach
theorem in_eq (a b c : Int) : impl_in.f a b c = some (decide (b ≤ a ∧ a ≤ c)) := by
 unfold impl_in.f
 by_cases h : a ≥ b
 ·
  rw [if_pos h]; congr 1; simp [show b ≤ a from h]
 rw [if_neg h, decide_eq_false (by omega)]
theorem ltr_str2 {e : Edg} (h0 : 0 ≤ e.f0) (h1 : e.f0 ≤ 25) : strOfNums ([(wrap64 (97 + e.f0)) % 256] : List Int) = B [ltr e] := by
 rw [strOfNums_B, wrap64_id (by omega) (by omega)]
 unfold ltr
 congr 2
 have : ((97 + e.f0) % 256).toNat = 97 + e.f0.toNat := by omega
 rw [this]
structure VisOut (acc out : List Txt) (left l2 : Int) : Prop where
 word : (∀ w ∈ acc, wordL w = true) → ∀ w ∈ out, wordL w = true
 low : 0 ≤ l2
 less : l2 ≤ left
 len : (out.length : Int) + l2 ≤ (acc.length : Int) + left
theorem VisOut.same (acc : List Txt) {left : Int} (h : 0 ≤ left) : VisOut acc acc left left := ⟨fun h => h, h, Int.le_refl _, Int.le_refl _⟩
theorem VisOut.trans {a b c : List Txt} {x y z : Int} (h : VisOut a b x y) (k : VisOut b c y z) : VisOut a c x z :=
 ⟨fun w => k.word (h.word w), k.low, Int.le_trans k.less h.less, by have := h.len; have := k.len; omega⟩
theorem visit_ex (m : List Stt) : ∀ (d : Nat) (so : Txt) (st : Int) (acc : List Txt) (left : Int), so.length + d = 13 → 0 ≤ left → left ≤ 481 → (acc.length : Int) + left ≤ 1000 →
  ∃ (ok : Bool) (out : List Txt) (l2 : Int), Ev (fun k => impl_opener_visit.v k m st (B so) (acc.map B) left) (ok, out.map B, l2) ∧ VisOut acc out left l2 := by
 intro d
 induction d with
 | zero =>
  intro so st acc left hd h0 h1 h2
  refine ⟨false, acc, left, Ev.step (fun k => impl_opener_visit.v.eq_2 ..) ?_, VisOut.same acc h0⟩
  rw [in_eq]
  refine Ev.some_bind ?_
  by_cases hi : decide (0 ≤ st ∧ st ≤ (m.length : Int) - 1) = true
  ·
   refine Ev.ifT hi ?_
   rw [isWord_eq]
   refine Ev.some_bind (Ev.ifF ?_ (Ev.now _))
   intro hw
   have := (wordL_iff.1 hw).2
   omega
  exact Ev.ifF hi (Ev.now _)
 | succ d ih =>
  intro so st acc left hd h0 h1 h2
  have es : ∀ (L : List Edg) (acc : List Txt) (left : Int), 0 ≤ left → left ≤ 481 → (acc.length : Int) + left ≤ 1000 →
    ∃ (ok : Bool) (out : List Txt) (l2 : Int), Ev (fun k => impl_opener_visit.es (impl_opener_visit.v k m) (B so) L (acc.map B) left) (ok, out.map B, l2) ∧ VisOut acc out left l2 := by
   intro L
   induction L with
   | nil =>
    intro acc left h0 h1 h2
    exact ⟨true, acc, left, Ev.now _, VisOut.same acc h0⟩
   | cons e L ihL =>
    intro acc left h0 h1 h2
    by_cases he : 0 ≤ e.f0 ∧ e.f0 ≤ 25
    ·
     obtain ⟨ok, out, l2, hv, ho⟩ := ih (so ++ [ltr e]) e.f1 acc left (by simp; omega) h0 h1 h2
     have hb : (fun k => impl_opener_visit.es (impl_opener_visit.v k m) (B so) (e :: L) (acc.map B) left) = fun k => (impl_opener_visit.v k m e.f1 (B (so ++ [ltr e])) (acc.map B) left).bind fun p => if p.1 = true then impl_opener_visit.es (impl_opener_visit.v k m) (B so) L p.2.1 p.2.2 else some (false, p.2.1, p.2.2) := by
      funext k
      rw [impl_opener_visit.es, in_eq, decide_eq_true he, Option.bind_some, if_pos rfl, if_pos (by rw [size_B]; omega), ltr_str2 he.1 he.2, append_B]
     cases ok with
     | false =>
      refine ⟨false, out, l2, ?_, ho⟩
      rw [hb]
      exact Ev.bind hv (Ev.ifF Bool.false_ne_true (Ev.now _))
     | true =>
      obtain ⟨ok, out2, l3, hv2, ho2⟩ := ihL out l2 ho.low (by have := ho.less; omega) (by have := ho.len; omega)
      refine ⟨ok, out2, l3, ?_, ho.trans ho2⟩
      rw [hb]
      exact Ev.bind hv (Ev.ifT rfl hv2)
    refine ⟨false, acc, left, ?_, VisOut.same acc h0⟩
    have hb : (fun k => impl_opener_visit.es (impl_opener_visit.v k m) (B so) (e :: L) (acc.map B) left) = fun _ => some (false, acc.map B, left) := by
     funext k
     rw [impl_opener_visit.es, in_eq, decide_eq_false he, Option.bind_some, if_neg Bool.false_ne_true]
    rw [hb]
    exact Ev.now _
  by_cases hi : decide (0 ≤ st ∧ st ≤ (m.length : Int) - 1) = true
  rotate_left
  ·
   refine ⟨false, acc, left, Ev.step (fun k => impl_opener_visit.v.eq_2 ..) ?_, VisOut.same acc h0⟩
   rw [in_eq]
   exact Ev.some_bind (Ev.ifF hi (Ev.now _))
  by_cases hw : wordL so = true
  rotate_left
  ·
   refine ⟨false, acc, left, Ev.step (fun k => impl_opener_visit.v.eq_2 ..) ?_, VisOut.same acc h0⟩
   rw [in_eq, isWord_eq]
   exact Ev.some_bind (Ev.ifT hi (Ev.some_bind (Ev.ifF hw (Ev.now _))))
  by_cases hl : left = 0
  ·
   refine ⟨false, acc, left, Ev.step (fun k => impl_opener_visit.v.eq_2 ..) ?_, VisOut.same acc h0⟩
   rw [in_eq, isWord_eq]
   exact Ev.some_bind (Ev.ifT hi (Ev.some_bind (Ev.ifT hw (Ev.ifT hl (Ev.now _)))))
  by_cases he : (rd_T72 m st).f0 = true
  ·
   obtain ⟨ok, out, l2, hv, ho⟩ := es (rd_T72 m st).f1 (acc ++ [so]) (left - 1) (by omega) (by omega) (by rw [List.length_append]; simp; omega)
   refine ⟨ok, out, l2, Ev.step (fun k => impl_opener_visit.v.eq_2 ..) ?_, ⟨fun h => ho.word fun w hw2 => ?_, ho.low, by have := ho.less; omega, by have := ho.len; rw [List.length_append] at this; simp at this; omega⟩⟩
   ·
    rw [in_eq, isWord_eq, if_pos he]
    refine Ev.some_bind (Ev.ifT hi (Ev.some_bind (Ev.ifT hw (Ev.ifF hl (Ev.ifT ⟨by omega, by omega, by rw [List.length_map]; omega⟩ ?_)))))
    rw [show acc.map B ++ [B so] = (acc ++ [so]).map B from by simp]
    exact hv
   rcases List.mem_append.1 hw2 with k | k
   ·
    exact h w k
   rw [List.mem_singleton.1 k]; exact hw
  obtain ⟨ok, out, l2, hv, ho⟩ := es (rd_T72 m st).f1 acc (left - 1) (by omega) (by omega) (by omega)
  refine ⟨ok, out, l2, Ev.step (fun k => impl_opener_visit.v.eq_2 ..) ?_, ⟨ho.word, ho.low, by have := ho.less; omega, by have := ho.len; omega⟩⟩
  rw [in_eq, isWord_eq, if_neg he]
  exact Ev.some_bind (Ev.ifT hi (Ev.some_bind (Ev.ifT hw (Ev.ifF hl (Ev.ifT ⟨by omega, by omega, by rw [List.length_map]; omega⟩ hv)))))
theorem visitW {ws : List Txt} (h : OkW ws) : ∀ (n : Nat) (b : List Txt) (so : Txt) (acc : List Txt) (left : Int), Res n b → b ∈ dL ws → so.length + n ≤ 12 → wordL so = true → (cntL n b : Int) ≤ left → left ≤ 481 → (acc.length : Int) + left ≤ 1000 →
  Ev (fun k => impl_opener_visit.v k (machW ws) ((dL ws).idxOf b : Int) (B so) (acc.map B) left) (true, (acc ++ b.map (so ++ ·)).map B, left - (cntL n b : Int)) := by
 intro n
 induction n with
 | zero =>
  intro b so acc left hr hb hs hw hc hl ha
  have h1 := machW_lt hb
  have hst := machW_rd hb
  have hlz := hr.zero_lets
  have hc1 : cntL 0 b = 1 := rfl
  rw [hc1] at hc ⊢
  refine Ev.step (fun k => impl_opener_visit.v.eq_2 ..) ?_
  rw [in_eq, isWord_eq, hst, stW_eq, hlz]
  refine Ev.some_bind (Ev.ifT (decide_eq_true (by omega)) (Ev.some_bind (Ev.ifT hw (Ev.ifF (by omega) (Ev.ifT ⟨by omega, by omega, by rw [List.length_map]; omega⟩ ?_)))))
  rw [out_all hr so, hlz]
  show Ev (fun k => some (true, (if decide ([] ∈ b) = true then acc.map B ++ [B so] else acc.map B), left - 1)) _
  by_cases h0 : [] ∈ b
  ·
   rw [if_pos h0, decide_eq_true h0, if_pos rfl]
   have e : (acc ++ ([so] ++ outL b so [])).map B = acc.map B ++ [B so] := by simp [outL]
   rw [e]
   exact Ev.now _
  rw [if_neg h0, decide_eq_false h0, if_neg Bool.false_ne_true]
  have e : (acc ++ ([] ++ outL b so [])).map B = acc.map B := by simp [outL]
  rw [e]
  exact Ev.now _
 | succ n ih =>
  intro b so acc left hr hb hs hw hc hl ha
  have h1 := machW_lt hb
  have hst := machW_rd hb
  rw [cntL] at hc ⊢
  have loop : ∀ (L : List UInt8) (acc : List Txt) (left : Int), (∀ c ∈ L, c ∈ letsL b) → ((L.map fun c => cntL n (succL b c)).sum : Nat) ≤ left → left ≤ 481 → (acc.length : Int) + left ≤ 1000 →
    Ev (fun k => impl_opener_visit.es (impl_opener_visit.v k (machW ws)) (B so) (L.map (edgeW ws b)) (acc.map B) left) (true, (acc ++ outL b so L).map B, left - ((L.map fun c => cntL n (succL b c)).sum : Nat)) := by
   intro L
   induction L with
   | nil =>
    intro acc left _ _ _ _
    have e : (acc ++ outL b so []).map B = acc.map B := by simp [outL]
    rw [e]
    show Ev (fun _ => some (true, acc.map B, left)) (true, acc.map B, left - ((0 : Nat) : Int))
    rw [show left - ((0 : Nat) : Int) = left from by omega]
    exact Ev.now _
   | cons c L ihL =>
    intro acc left hL hsum hl ha
    have hcm := hL c List.mem_cons_self
    have hb1 := letsL_let hcm
    have he : 0 ≤ (edgeW ws b c).f0 ∧ (edgeW ws b c).f0 ≤ 25 := ⟨(edgeW_ok h hb hcm).1, (edgeW_ok h hb hcm).2.1⟩
    have esum : ((c :: L).map fun c => cntL n (succL b c)).sum = cntL n (succL b c) + (L.map fun c => cntL n (succL b c)).sum := by simp
    rw [esum] at hsum ⊢
    have hrs := hr.succ c
    have hlc := len_cnt n _ hrs
    have hw2 : wordL (so ++ [c]) = true := wordL_iff.2 ⟨fun x hx => by
     rcases List.mem_append.1 hx with k | k
     ·
      exact (wordL_iff.1 hw).1 x k
     rw [List.mem_singleton.1 k]; unfold letterB; rw [decide_eq_true_eq]; exact hb1, by simp; omega⟩
    have hv := ih (succL b c) (so ++ [c]) acc left hrs (dL_succ h hb hcm) (by simp; omega) hw2 (by omega) hl ha
    have e1 : (succL b c).map ((so ++ [c]) ++ ·) = (succL b c).map fun x => so ++ c :: x := List.map_congr_left fun x _ => by rw [List.append_assoc]; rfl
    rw [e1] at hv
    have hn := ihL (acc ++ (succL b c).map fun x => so ++ c :: x) (left - (cntL n (succL b c) : Int)) (fun x hx => hL x (List.mem_cons_of_mem _ hx)) (by omega) (by omega) (by rw [List.length_append, List.length_map]; omega)
    have hbb : (fun k => impl_opener_visit.es (impl_opener_visit.v k (machW ws)) (B so) ((c :: L).map (edgeW ws b)) (acc.map B) left) = fun k => (impl_opener_visit.v k (machW ws) ((dL ws).idxOf (succL b c) : Int) (B (so ++ [c])) (acc.map B) left).bind fun p => if p.1 = true then impl_opener_visit.es (impl_opener_visit.v k (machW ws)) (B so) (L.map (edgeW ws b)) p.2.1 p.2.2 else some (false, p.2.1, p.2.2) := by
     funext k
     rw [List.map_cons, impl_opener_visit.es, in_eq, decide_eq_true he, Option.bind_some, if_pos rfl, if_pos (by rw [size_B]; omega), ltr_str2 he.1 he.2, append_B, edgeW_ltr hcm]
     rfl
    rw [hbb]
    refine Ev.bind hv (Ev.ifT rfl ?_)
    have e2 : outL b so (c :: L) = ((succL b c).map fun x => so ++ c :: x) ++ outL b so L := by unfold outL; rw [List.flatMap_cons]
    rw [e2, ← List.append_assoc, show left - ((cntL n (succL b c) + (L.map fun c => cntL n (succL b c)).sum : Nat) : Int) = left - (cntL n (succL b c) : Int) - ((L.map fun c => cntL n (succL b c)).sum : Nat) from by omega]
    exact hn
  refine Ev.step (fun k => impl_opener_visit.v.eq_2 ..) ?_
  rw [in_eq, isWord_eq, hst, stW_eq]
  refine Ev.some_bind (Ev.ifT (decide_eq_true (by omega)) (Ev.some_bind (Ev.ifT hw (Ev.ifF (by omega) (Ev.ifT ⟨by omega, by omega, by rw [List.length_map]; omega⟩ ?_)))))
  rw [out_all hr so]
  rw [show left - ((1 + ((letsL b).map fun c => cntL n (succL b c)).sum : Nat) : Int) = left - 1 - (((letsL b).map fun c => cntL n (succL b c)).sum : Nat) from by omega]
  show Ev (fun k => impl_opener_visit.es (impl_opener_visit.v k (machW ws)) (B so) ((letsL b).map (edgeW ws b)) (if decide ([] ∈ b) = true then acc.map B ++ [B so] else acc.map B) (left - 1)) _
  by_cases h0 : [] ∈ b
  ·
   rw [if_pos h0, decide_eq_true h0, if_pos rfl, ← List.append_assoc, show acc.map B ++ [B so] = (acc ++ [so]).map B from by simp]
   exact loop (letsL b) (acc ++ [so]) (left - 1) (fun _ hc => hc) (by omega) (by omega) (by rw [List.length_append]; simp; omega)
  rw [if_neg h0, decide_eq_false h0, if_neg Bool.false_ne_true, List.nil_append]
  exact loop (letsL b) acc (left - 1) (fun _ hc => hc) (by omega) (by omega) (by omega)
end Mach
end Go.Proofs.YtnnkedeohfbkeaaGreatDoor.L
namespace Go.Proofs.YtnnkedeohfbkeaaGreatDoor.L
open Go.RowKit Go.Proofs.YtnnkedeohfbkeaaGreatDoor.P Go.Proofs.YtnnkedeohfbkeaaGreatDoor.M Go.Proofs.YtnnkedeohfbkeaaGreatDoorW.PrintWords Go.Proofs.YtnnkedeohfbkeaaGreatDoorW.PrintLast Go.Proofs.YtnnkedeohfbkeaaGreatDoorW.PrintMore
namespace Mach
def kidsW (ws : List Txt) : List (List Int) := (List.range (preL ws).length).map (kidW ws)
theorem kidsW_length (ws : List Txt) : (kidsW ws).length = (preL ws).length := by simp [kidsW]
theorem kidsW_rd {ws : List Txt} {i : Nat} (hi : i < (preL ws).length) : rd_L10 (kidsW ws) (i : Int) = kidW ws i := by
 unfold rd_L10 kidsW
 rw [Int.toNat_natCast, getD_lt _ (by simpa using hi)]
 simp
def kidsU (P : List Txt) (n : Nat) : List (List Int) := (List.range P.length).map fun j => kidU P (P.getD j []) n
theorem kidsU_length (P : List Txt) (n : Nat) : (kidsU P n).length = P.length := by simp [kidsU]
theorem kidsU_rd {P : List Txt} {n i : Nat} (hi : i < P.length) : rd_L10 (kidsU P n) (i : Int) = kidU P (P.getD i []) n := by
 unfold rd_L10 kidsU
 rw [Int.toNat_natCast, getD_lt _ (by simpa using hi)]
 simp
theorem isKid_par {P : List Txt} (hA : Asc P) (hC : Clo P) {i j : Nat} (hi : i < P.length) (h0 : 0 < i) (hj : j < P.length) : isKid P (P.getD j []) i = decide (j = placeL P (P.getD i []).dropLast) := by
 obtain ⟨h1, h2⟩ := clo_parent hA hC hi h0
 unfold isKid
 congr 1
 refine propext ⟨fun h => ?_, fun h => ⟨clo_pos hA hC hi h0, by rw [h, h2]⟩⟩
 rw [h.2, placeL_get hA hj]
theorem kidsU_set {P : List Txt} (hA : Asc P) (hC : Clo P) {i : Nat} (hi : i < P.length) (h0 : 0 < i) : (kidsU P i).set (placeL P (P.getD i []).dropLast) (kidU P (P.getD (placeL P (P.getD i []).dropLast) []) i ++ [(i : Int)]) = kidsU P (i + 1) := by
 obtain ⟨h1, h2⟩ := clo_parent hA hC hi h0
 apply List.ext_getElem?
 intro j
 by_cases hj : j < P.length
 ·
  unfold kidsU
  rw [List.getElem?_set, List.getElem?_map, List.getElem?_map, List.getElem?_range hj, Option.map_some, Option.map_some, kidU_succ, isKid_par hA hC hi h0 hj]
  by_cases e : placeL P (P.getD i []).dropLast = j
  ·
   rw [if_pos e, if_pos (by rw [List.length_map, List.length_range]; omega), if_pos (decide_eq_true e.symm), e]
  rw [if_neg e, if_neg (by rw [decide_eq_true_eq]; exact fun k => e k.symm), List.append_nil]
 rw [List.getElem?_eq_none (by rw [List.length_set, kidsU_length]; omega), List.getElem?_eq_none (by rw [kidsU_length]; omega)]
theorem l7Kids_ev {ws : List Txt} (h : OkW ws) : Ev (fun k => spec_l7Kids.f k (trN (preL ws) ws)) (kidsW ws) := by
 have hA := asc_preL ws
 have hC := clo_preL ws
 have hP := h.pre
 obtain ⟨z1, z2⟩ := clo_zero hA hC
 have fin : kidsU (preL ws) (preL ws).length = kidsW ws := by
  unfold kidsU kidsW
  exact List.map_congr_left fun j hj => kidW_eq h j
 have loop : ∀ d n, n + d = (preL ws).length → 0 < n → Ev (fun k => spec_l7Kids.l0 k (kidsU (preL ws) n) (n : Int) (trN (preL ws) ws)) (kidsW ws) := by
  intro d
  induction d with
  | zero =>
   intro n h1 h2
   rw [show n = (preL ws).length from by omega, fin]
   exact Ev.step (fun k => spec_l7Kids.l0.eq_2 ..) (Ev.ifF (by rw [trN_length]; omega) (Ev.now _))
  | succ d ih =>
   intro n h1 h2
   have hn : n < (preL ws).length := by omega
   obtain ⟨p1, p2⟩ := clo_parent hA hC hn h2
   have hl := kidU_length (preL ws) ((preL ws).getD (placeL (preL ws) ((preL ws).getD n []).dropLast) []) n
   refine Ev.step (fun k => spec_l7Kids.l0.eq_2 ..) (Ev.ifT (by rw [trN_length]; omega) (Ev.ifT (by omega) ?_))
   rw [f1_pos ws hA hC hn h2, kidsU_rd (by omega)]
   refine Ev.ifT (by omega) (Ev.ifT (by rw [kidsU_length]; omega) (Ev.ifT (by omega) ?_))
   rw [Int.toNat_natCast, kidsU_set hA hC hn h2, wrap64_succ n (by omega)]
   exact ih (n + 1) (by omega) (by omega)
 unfold spec_l7Kids.f
 refine Ev.ifT (by omega) (Ev.ifT (by rw [trN_length]; omega) ?_)
 have hr : List.replicate (((trN (preL ws) ws).length : Int)).toNat ([] : List Int) = kidsU (preL ws) 1 := by
  rw [Int.toNat_natCast, trN_length]
  apply List.ext_getElem?
  intro j
  by_cases hj : j < (preL ws).length
  ·
   unfold kidsU
   rw [List.getElem?_replicate, if_pos hj, List.getElem?_map, List.getElem?_range hj, Option.map_some]
   have : kidU (preL ws) ((preL ws).getD j []) 1 = [] := by
    rw [kidU_succ, show kidU (preL ws) ((preL ws).getD j []) 0 = [] from rfl, if_neg, List.nil_append]
    unfold isKid
    rw [z2]
    simp
   rw [this]
  rw [List.getElem?_eq_none (by simp; omega), List.getElem?_eq_none (by rw [kidsU_length]; omega)]
 rw [hr]
 exact loop ((preL ws).length - 1) 1 (by omega) (by omega)
theorem l7Alike_ev {ws : List Txt} (h : OkW ws) {i k : Nat} (hik : i < k) (hk : k < (preL ws).length) (E : List Int) (hE : E.length = (preL ws).length)
  (hv : ∀ j, i < j → j < (preL ws).length → E.getD j 0 = (lastL (resL ws) ((resL ws).getD j []) : Int)) :
  Ev (fun f => spec_l7Alike.f f (trN (preL ws) ws) (kidsW ws) E (i : Int) (k : Int)) (decide ((resL ws).getD i [] = (resL ws).getD k [])) := by
 have hi : i < (preL ws).length := by omega
 have hP := h.pre
 have Ri : Res 12 ((resL ws).getD i []) := by rw [resL_get hi]; exact Res.beh12 h _
 have Rk : Res 12 ((resL ws).getD k []) := by rw [resL_get hk]; exact Res.beh12 h _
 have hend : ∀ {j}, j < (preL ws).length → (rd_T96 (trN (preL ws) ws) (j : Int)).f2 = decide ([] ∈ (resL ws).getD j []) := fun {j} hj => by
  rw [f2_eq ws hj, resL_get hj]
  congr 1
  exact propext (by rw [mem_behL, List.append_nil])
 have stop : ∀ b : Bool, b = true → Ev (fun f => spec_l7Alike.j0 f (kidsW ws) E (i : Int) (k : Int) b (trN (preL ws) ws)) false := fun b hb => Ev.step (fun f => spec_l7Alike.j0.eq_2 ..) (Ev.ifT hb (Ev.now _))
 have hres : ∀ {n m}, n < (preL ws).length → m < (preL ws).length → ((lastL (resL ws) ((resL ws).getD n []) : Int) = (lastL (resL ws) ((resL ws).getD m []) : Int) ↔ (resL ws).getD n [] = (resL ws).getD m []) := fun {n m} hn hm => by
  rw [← lastL_inj (R := resL ws) (by rw [resL_length]; exact hn) (by rw [resL_length]; exact hm)]
  omega
 unfold spec_l7Alike.f
 refine Ev.ifT (by omega) (Ev.ifT (by rw [trN_length]; omega) (Ev.ifT (by omega) (Ev.ifT (by rw [trN_length]; omega) ?_)))
 rw [hend hi, hend hk, kidsW_rd hi, kidsW_rd hk]
 by_cases h0 : decide ([] ∈ (resL ws).getD i []) = decide ([] ∈ (resL ws).getD k [])
 rotate_left
 ·
  rw [show decide ((resL ws).getD i [] = (resL ws).getD k []) = false from decide_eq_false fun e => h0 (by rw [e])]
  exact Ev.ifT (bne_iff_ne.2 h0) (stop _ rfl)
 refine Ev.ifF (by rw [h0]; simp) (Ev.ifT (by rw [kidsW_length]; omega) (Ev.ifT (by rw [kidsW_length]; omega) ?_))
 have hli : (kidW ws i).length = (letsL ((resL ws).getD i [])).length := by rw [kidW_length, resL_get hi]
 have hlk : (kidW ws k).length = (letsL ((resL ws).getD k [])).length := by rw [kidW_length, resL_get hk]
 have l26 := letsL_length ((resL ws).getD i [])
 by_cases h1 : (kidW ws i).length = (kidW ws k).length
 rotate_left
 ·
  rw [decide_eq_false (fun e => h1 (by rw [hli, hlk, e]))]
  refine stop _ ?_
  rw [bne_iff_ne]
  omega
 refine Ev.step (fun f => spec_l7Alike.j0.eq_2 ..) (Ev.ifF (by simp; omega) ?_)
 have loop : ∀ d n, n + d = (kidW ws i).length → (∀ m, m < n → (letsL ((resL ws).getD i [])).getD m 0 = (letsL ((resL ws).getD k [])).getD m 0 ∧ succL ((resL ws).getD i []) ((letsL ((resL ws).getD i [])).getD m 0) = succL ((resL ws).getD k []) ((letsL ((resL ws).getD k [])).getD m 0)) →
   Ev (fun f => spec_l7Alike.l0 f (kidsW ws) E (i : Int) (k : Int) (n : Int) (trN (preL ws) ws)) (decide ((resL ws).getD i [] = (resL ws).getD k [])) := by
  intro d
  induction d with
  | zero =>
   intro n hn hm
   have hle : letsL ((resL ws).getD i []) = letsL ((resL ws).getD k []) := by
    apply List.ext_getElem
    ·
     rw [← hli, ← hlk, h1]
    intro j h2 h3
    have := (hm j (by omega)).1
    rwa [getD_lt 0 h2, getD_lt 0 h3] at this
   have heq : (resL ws).getD i [] = (resL ws).getD k [] := res_eq Ri Rk h0 hle fun c hc => by
    obtain ⟨j, hj, rfl⟩ := List.getElem_of_mem hc
    have h2 := hm j (by omega)
    rw [← h2.1, getD_lt 0 hj] at h2
    exact h2.2
   rw [decide_eq_true heq]
   refine Ev.step (fun f => spec_l7Alike.l0.eq_2 ..) (Ev.ifT (by omega) (Ev.ifT (by rw [kidsW_length]; omega) ?_))
   rw [kidsW_rd hi]
   exact Ev.ifF (by omega) (Ev.now _)
  | succ d ih =>
   intro n hn hm
   have n1 : n < (kidW ws i).length := by omega
   have n2 : n < (kidW ws k).length := by omega
   obtain ⟨q, q1, q2, q3, q4, q5, q6⟩ := kid_at h hi n1
   obtain ⟨t, t1, t2, t3, t4, t5, t6⟩ := kid_at h hk n2
   have no : ¬ ((letsL ((resL ws).getD i [])).getD n 0 = (letsL ((resL ws).getD k [])).getD n 0 ∧ succL ((resL ws).getD i []) ((letsL ((resL ws).getD i [])).getD n 0) = succL ((resL ws).getD k []) ((letsL ((resL ws).getD k [])).getD n 0)) → decide ((resL ws).getD i [] = (resL ws).getD k []) = false := fun hn => decide_eq_false fun e => hn (by rw [e]; exact ⟨rfl, rfl⟩)
   refine Ev.step (fun f => spec_l7Alike.l0.eq_2 ..) (Ev.ifT (by omega) (Ev.ifT (by rw [kidsW_length]; omega) ?_))
   rw [kidsW_rd hi]
   refine Ev.ifT (by omega) (Ev.ifT (by omega) (Ev.ifT (by omega) (Ev.ifT (by rw [kidsW_length]; omega) ?_)))
   rw [kidsW_rd hk]
   refine Ev.ifT (by omega) ?_
   rw [rd_nat, rd_nat, q1, t1]
   refine Ev.ifT (by omega) (Ev.ifT (by rw [trN_length]; omega) (Ev.ifT (by omega) (Ev.ifT (by rw [trN_length]; omega) ?_)))
   rw [q5, t5]
   by_cases h2 : (letsL ((resL ws).getD i [])).getD n 0 = (letsL ((resL ws).getD k [])).getD n 0
   ·
    refine Ev.ifT (by rw [h2]) (Ev.ifT (by omega) (Ev.ifT (by omega) ?_))
    rw [rd_nat, rd_nat, hv q (by omega) q2, hv t (by omega) t2]
    by_cases h3 : (resL ws).getD q [] = (resL ws).getD t []
    ·
     refine Ev.ifT ((hres q2 t2).2 h3) ?_
     rw [wrap64_succ n (by omega)]
     refine ih (n + 1) (by omega) fun m hm' => ?_
     rcases Nat.lt_or_ge m n with h4 | h4
     ·
      exact hm m h4
     obtain rfl : m = n := by omega
     rw [q6, t6] at h3
     exact ⟨h2, h3⟩
    rw [no fun e => h3 (by rw [q6, t6]; exact e.2)]
    exact Ev.ifF (fun e => h3 ((hres q2 t2).1 e)) (Ev.now _)
   rw [no fun e => h2 e.1]
   refine Ev.ifF (fun e => h2 (UInt8.toNat_inj.1 (by omega))) (Ev.now _)
 exact loop (kidW ws i).length 0 (by omega) (fun m hm => absurd hm (Nat.not_lt_zero m))
def endsF (ws : List Txt) : List Int := (List.range (preL ws).length).map fun i => (lastL (resL ws) ((resL ws).getD i []) : Int)
theorem endsF_length (ws : List Txt) : (endsF ws).length = (preL ws).length := by simp [endsF]
theorem endsF_get {ws : List Txt} {i : Nat} (hi : i < (preL ws).length) : (endsF ws).getD i 0 = (lastL (resL ws) ((resL ws).getD i []) : Int) := by
 unfold endsF
 rw [getD_lt 0 (by simpa using hi)]
 simp
def endsP (ws : List Txt) (n : Nat) : List Int := List.replicate n 0 ++ (endsF ws).drop n
theorem endsP_length {ws : List Txt} {n : Nat} (hn : n ≤ (preL ws).length) : (endsP ws n).length = (preL ws).length := by
 unfold endsP
 rw [List.length_append, List.length_replicate, List.length_drop, endsF_length]
 omega
theorem endsP_get {ws : List Txt} {n j : Nat} (hn : n ≤ j) (hj : j < (preL ws).length) : (endsP ws n).getD j 0 = (lastL (resL ws) ((resL ws).getD j []) : Int) := by
 rw [← endsF_get hj]
 unfold endsP
 rw [List.getD_eq_getElem?_getD, List.getD_eq_getElem?_getD, List.getElem?_append_right (by simpa using hn), List.length_replicate, List.getElem?_drop, show n + (j - n) = j from by omega]
theorem endsP_set {ws : List Txt} {n : Nat} (hn : n < (preL ws).length) (a b : Int) (hb : b = (lastL (resL ws) ((resL ws).getD n []) : Int)) : ((endsP ws (n + 1)).set n a).set n b = endsP ws n := by
 rw [List.set_set]
 have hl := endsF_length ws
 unfold endsP
 rw [List.replicate_succ', List.append_assoc, List.set_append_right _ _ (by simp), List.length_replicate, Nat.sub_self, List.singleton_append, List.set_cons_zero, List.drop_eq_getElem_cons (show n < (endsF ws).length by omega)]
 congr 2
 rw [hb, ← endsF_get hn, getD_lt 0 (by omega)]
theorem l7Ends_ev {ws : List Txt} (h : OkW ws) : Ev (fun k => spec_l7Ends.f k (trN (preL ws) ws)) (endsF ws) := by
 have hP := h.pre
 have hRl := resL_length ws
 have one : ∀ n, n < (preL ws).length → ∀ r, Ev (fun k => spec_l7Ends.l0 k (kidsW ws) (endsP ws n) (wrap64 ((n : Int) - 1)) (trN (preL ws) ws)) r →
   ∀ d m, m = n + d → m < (preL ws).length → lastL (resL ws) ((resL ws).getD n []) ≤ m → Ev (fun k => spec_l7Ends.l1 k (kidsW ws) ((endsP ws (n + 1)).set n (n : Int)) (n : Int) (m : Int) (trN (preL ws) ws)) r := by
  intro n hn r hr d
  have hge := lastL_ge (R := resL ws) (i := n) (by omega)
  have hlen : ((endsP ws (n + 1)).set n (n : Int)).length = (preL ws).length := by rw [List.length_set, endsP_length (by omega)]
  have hget : ∀ j, n < j → j < (preL ws).length → ((endsP ws (n + 1)).set n (n : Int)).getD j 0 = (lastL (resL ws) ((resL ws).getD j []) : Int) := fun j h1 h2 => by
   rw [List.getD_eq_getElem?_getD, List.getElem?_set_ne (by omega), ← List.getD_eq_getElem?_getD, endsP_get (by omega) h2]
  induction d with
  | zero =>
   intro m hm hml hl
   refine Ev.step (fun k => spec_l7Ends.l1.eq_2 ..) (Ev.ifF (by omega) ?_)
   have : (endsP ws (n + 1)).set n (n : Int) = endsP ws n := by
    have := endsP_set hn (n : Int) (n : Int) (by omega)
    rwa [List.set_set] at this
   rw [this]
   exact hr
  | succ d ih =>
   intro m hm hml hl
   refine Ev.step (fun k => spec_l7Ends.l1.eq_2 ..) (Ev.ifT (by omega) (Ev.ifT (by omega) (Ev.ifT (by rw [hlen]; omega) ?_)))
   rw [rd_nat, hget m (by omega) hml]
   have next : lastL (resL ws) ((resL ws).getD n []) ≠ m → Ev (fun k => spec_l7Ends.l1 k (kidsW ws) ((endsP ws (n + 1)).set n (n : Int)) (n : Int) (wrap64 ((m : Int) - 1)) (trN (preL ws) ws)) r := fun hne => by
    have e : wrap64 ((m : Int) - 1) = ((m - 1 : Nat) : Int) := by rw [wrap64_id (by omega) (by omega)]; omega
    rw [e]
    exact ih (m - 1) (by omega) (by omega) (by omega)
   by_cases h1 : lastL (resL ws) ((resL ws).getD m []) = m
   ·
    refine Ev.ifT (by omega) ?_
    have ha := l7Alike_ev h (show n < m by omega) hml _ hlen hget
    by_cases h2 : (resL ws).getD n [] = (resL ws).getD m []
    ·
     rw [decide_eq_true h2] at ha
     refine Ev.bind ha (Ev.ifT rfl (Ev.ifT (by omega) (Ev.ifT (by rw [hlen]; omega) ?_)))
     rw [Int.toNat_natCast, endsP_set hn _ _ (by rw [h2, h1])]
     exact hr
    rw [decide_eq_false h2] at ha
    refine Ev.bind ha (Ev.ifF Bool.false_ne_true (next fun e => h2 ?_))
    have := (lastL_spec (getR_mem (R := resL ws) (i := n) (by omega))).2.1
    rw [e] at this
    exact this.symm
   refine Ev.ifF (by omega) (next fun e => h1 ?_)
   have := (lastL_spec (getR_mem (R := resL ws) (i := n) (by omega))).2.1
   rw [e] at this
   rw [this, e]
 have loop : ∀ n, n ≤ (preL ws).length → Ev (fun k => spec_l7Ends.l0 k (kidsW ws) (endsP ws n) (wrap64 ((n : Int) - 1)) (trN (preL ws) ws)) (endsF ws) := by
  intro n
  induction n with
  | zero =>
   intro _
   refine Ev.step (fun k => spec_l7Ends.l0.eq_2 ..) (Ev.ifF (by rw [wrap64_id (by omega) (by omega)]; omega) ?_)
   unfold endsP
   rw [List.replicate_zero, List.nil_append, List.drop_zero]
   exact Ev.now _
  | succ n ih =>
   intro hn
   have e : wrap64 (((n + 1 : Nat) : Int) - 1) = (n : Int) := by rw [wrap64_id (by omega) (by omega)]; omega
   have e2 : wrap64 ((((endsP ws (n + 1)).set n (n : Int)).length : Int) - 1) = (((preL ws).length - 1 : Nat) : Int) := by
    rw [List.length_set, endsP_length hn, wrap64_id (by omega) (by omega)]; omega
   rw [e]
   refine Ev.step (fun k => spec_l7Ends.l0.eq_2 ..) (Ev.ifT (by omega) (Ev.ifT (by omega) (Ev.ifT (by rw [endsP_length hn]; omega) ?_)))
   have e3 : wrap64 (((endsP ws (n + 1)).length : Int) - 1) = (((preL ws).length - 1 : Nat) : Int) := by
    rw [endsP_length hn, wrap64_id (by omega) (by omega)]; omega
   rw [Int.toNat_natCast, e3]
   have hlt := (lastL_spec (getR_mem (R := resL ws) (i := n) (by omega))).1
   exact one n (by omega) _ (ih (by omega)) ((preL ws).length - 1 - n) _ (by omega) (by omega) (by omega)
 unfold spec_l7Ends.f
 refine Ev.bind (l7Kids_ev h) (Ev.ifT (by omega) (Ev.ifT (by rw [trN_length]; omega) (Ev.some_bind ?_)))
 have hr : (List.replicate (((trN (preL ws) ws).length : Int)).toNat 0 : List Int) = endsP ws (preL ws).length := by
  rw [Int.toNat_natCast, trN_length]
  unfold endsP
  rw [List.drop_of_length_le (by rw [endsF_length]; omega), List.append_nil]
 rw [hr, endsP_length (Nat.le_refl _)]
 exact loop _ (Nat.le_refl _)
end Mach
end Go.Proofs.YtnnkedeohfbkeaaGreatDoor.L
namespace Go.Proofs.YtnnkedeohfbkeaaGreatDoor.L
open Go.RowKit Go.Proofs.YtnnkedeohfbkeaaGreatDoor.P Go.Proofs.YtnnkedeohfbkeaaGreatDoor.M Go.Proofs.YtnnkedeohfbkeaaGreatDoorW.PrintWords Go.Proofs.YtnnkedeohfbkeaaGreatDoorW.PrintLast Go.Proofs.YtnnkedeohfbkeaaGreatDoorW.PrintMore
namespace Mach
def placeP (ws : List Txt) (n : Nat) : List Int := (List.range (preL ws).length).map fun g => if (resL ws).getD g [] ∈ fL ws n ∧ lastL (resL ws) ((resL ws).getD g []) = g then ((fL ws n).idxOf ((resL ws).getD g []) : Int) else -1
theorem placeP_length (ws : List Txt) (n : Nat) : (placeP ws n).length = (preL ws).length := by simp [placeP]
theorem placeP_get {ws : List Txt} {n g : Nat} (hg : g < (preL ws).length) : (placeP ws n).getD g 0 = if (resL ws).getD g [] ∈ fL ws n ∧ lastL (resL ws) ((resL ws).getD g []) = g then ((fL ws n).idxOf ((resL ws).getD g []) : Int) else -1 := by
 unfold placeP
 rw [getD_lt 0 (by simpa using hg)]
 simp
theorem placeP_last {ws : List Txt} {n i : Nat} (hi : i < (preL ws).length) : rd (placeP ws n) (lastL (resL ws) ((resL ws).getD i []) : Int) = if (resL ws).getD i [] ∈ fL ws n then ((fL ws n).idxOf ((resL ws).getD i []) : Int) else -1 := by
 obtain ⟨h1, h2⟩ := lastR hi
 rw [rd_nat, placeP_get h1, h2]
 by_cases h : (resL ws).getD i [] ∈ fL ws n
 ·
  rw [if_pos ⟨h, rfl⟩, if_pos h]
 rw [if_neg (fun k => h k.1), if_neg h]
theorem placeP_set {ws : List Txt} {i : Nat} (hi : i < (preL ws).length) (hn : (resL ws).getD i [] ∉ fL ws i) : (placeP ws i).set (lastL (resL ws) ((resL ws).getD i [])) ((fL ws i).length : Int) = placeP ws (i + 1) := by
 obtain ⟨h1, h2⟩ := lastR hi
 have hF : fL ws (i + 1) = fL ws i ++ [(resL ws).getD i []] := by rw [fL_succ hi, if_neg hn]
 apply List.ext_getElem
 ·
  rw [List.length_set, placeP_length, placeP_length]
 intro g g1 g2
 have hg : g < (preL ws).length := by rw [placeP_length] at g2; exact g2
 rw [List.getElem_set, ← getD_lt 0 g2, placeP_get hg]
 by_cases e : lastL (resL ws) ((resL ws).getD i []) = g
 ·
  subst e
  rw [if_pos rfl, h2, if_pos ⟨fL_mem hi, rfl⟩, hF, idx_new hn]
 rw [if_neg e, ← getD_lt 0 (by rw [placeP_length]; exact hg), placeP_get hg]
 by_cases hl : lastL (resL ws) ((resL ws).getD g []) = g
 ·
  have hne : (resL ws).getD g [] ≠ (resL ws).getD i [] := fun k => e (by rw [← k, hl])
  by_cases hm : (resL ws).getD g [] ∈ fL ws i
  ·
   rw [if_pos ⟨hm, hl⟩, if_pos ⟨by rw [hF]; exact List.mem_append_left _ hm, hl⟩, hF, idx_pre (List.prefix_append _ _) hm]
  rw [if_neg (fun k => hm k.1), if_neg (fun k => by
   rw [hF, List.mem_append, List.mem_singleton] at k
   rcases k.1 with k | k
   ·
    exact hm k
   exact hne k)]
 rw [if_neg (fun k => hl k.2), if_neg (fun k => hl k.2)]
theorem l7Machine_ev {ws : List Txt} (h : OkW ws) : Ev (fun k => spec_l7Machine.f k (trN (preL ws) ws)) (machW ws) := by
 have hP := h.pre
 have eget : ∀ {i}, i < (preL ws).length → rd (endsF ws) (i : Int) = (lastL (resL ws) ((resL ws).getD i []) : Int) := fun {i} hi => by rw [rd_nat, endsF_get hi]
 have edges : ∀ i, i < (preL ws).length → ∀ acc r, Ev (fun k => spec_l7Machine.l2 k (kidsW ws) (endsF ws) (placeP ws (preL ws).length) (wrap64 ((i : Int) + 1)) (trN (preL ws) ws) (acc ++ [stW ws ((resL ws).getD i [])])) r → acc.length ≤ 1000 →
   ∀ d j, j + d = (kidW ws i).length → Ev (fun k => spec_l7Machine.l3 k (kidsW ws) (endsF ws) (placeP ws (preL ws).length) (i : Int) (j : Int) (trN (preL ws) ws) acc (decide ([] ∈ (resL ws).getD i [])) (((letsL ((resL ws).getD i [])).take j).map (edgeW ws ((resL ws).getD i [])))) r := by
  intro i hi acc r hr hacc d
  have hkl : (kidW ws i).length = (letsL ((resL ws).getD i [])).length := by rw [kidW_length, resL_get hi]
  have l26 := letsL_length ((resL ws).getD i [])
  induction d with
  | zero =>
   intro j hj
   refine Ev.step (fun k => spec_l7Machine.l3.eq_2 ..) (Ev.ifT (by omega) (Ev.ifT (by rw [kidsW_length]; omega) ?_))
   rw [kidsW_rd hi, List.take_of_length_le (by omega), ← stW_eq]
   exact Ev.ifF (by omega) (Ev.ifT (by omega) hr)
  | succ d ih =>
   intro j hj
   have hjk : j < (kidW ws i).length := by omega
   obtain ⟨q, q1, q2, q3, q4, q5, q6⟩ := kid_at h hi hjk
   have hq := lastR q2
   refine Ev.step (fun k => spec_l7Machine.l3.eq_2 ..) (Ev.ifT (by omega) (Ev.ifT (by rw [kidsW_length]; omega) ?_))
   rw [kidsW_rd hi, rd_nat (kidW ws i), q1, eget q2, placeP_last q2, fL_all, if_pos (res_mem q2), q5, q6]
   refine Ev.ifT (by omega) (Ev.ifT (by omega) (Ev.ifT (by omega) (Ev.ifT (by rw [trN_length]; omega) (Ev.ifT (by rw [endsF_length]; omega) (Ev.ifT (by omega) (Ev.ifT (by rw [placeP_length, ← q6]; omega) (Ev.ifT (by rw [List.length_map, List.length_take]; omega) ?_)))))))
   have e : ((letsL ((resL ws).getD i [])).take j).map (edgeW ws ((resL ws).getD i [])) ++ [(⟨(((letsL ((resL ws).getD i [])).getD j 0).toNat : Int) - 97, ((dL ws).idxOf (succL ((resL ws).getD i []) ((letsL ((resL ws).getD i [])).getD j 0)) : Int)⟩ : S88)] = ((letsL ((resL ws).getD i [])).take (j + 1)).map (edgeW ws ((resL ws).getD i [])) := by
    rw [take_succ_getD 0 (by omega), List.map_append]
    rfl
   rw [e, wrap64_succ j (by omega)]
   exact ih (j + 1) (by omega)
 have states : ∀ d i, i + d = (preL ws).length → Ev (fun k => spec_l7Machine.l2 k (kidsW ws) (endsF ws) (placeP ws (preL ws).length) (i : Int) (trN (preL ws) ws) ((fL ws i).map (stW ws))) (machW ws) := by
  intro d
  induction d with
  | zero =>
   intro i hi
   rw [show i = (preL ws).length from by omega, fL_all]
   exact Ev.step (fun k => spec_l7Machine.l2.eq_2 ..) (Ev.ifF (by rw [endsF_length]; omega) (Ev.now _))
  | succ d ih =>
   intro i hd
   have hi : i < (preL ws).length := by omega
   have hl := lastR hi
   have hfl := fL_length ws i (by omega)
   refine Ev.step (fun k => spec_l7Machine.l2.eq_2 ..) (Ev.ifT (by rw [endsF_length]; omega) (Ev.ifT (by omega) ?_))
   rw [eget hi]
   refine Ev.ifT (by omega) (Ev.ifT (by rw [placeP_length]; omega) ?_)
   rw [placeP_last hi, fL_all, if_pos (res_mem hi), List.length_map]
   have hih := ih (i + 1) (by omega)
   by_cases hn : (resL ws).getD i [] ∈ fL ws i
   ·
    refine Ev.ifF (by have := idx_old (ws := ws) (n := i) (by omega) hn; omega) ?_
    rw [wrap64_succ i (by omega)]
    rw [fL_succ hi, if_pos hn] at hih
    exact hih
   refine Ev.ifT (by rw [idx_first hi hn]) (Ev.ifT (by rw [trN_length]; omega) ?_)
   rw [end_eq hi]
   rw [fL_succ hi, if_neg hn, List.map_append] at hih
   have := edges i hi ((fL ws i).map (stW ws)) (machW ws) (by rw [wrap64_succ i (by omega)]; exact hih) (by rw [List.length_map]; omega) (kidW ws i).length 0 (by omega)
   exact this
 have nums : ∀ d i, i + d = (preL ws).length → Ev (fun k => spec_l7Machine.l1 k (kidsW ws) (endsF ws) (placeP ws i) ((fL ws i).length : Int) (i : Int) (trN (preL ws) ws)) (machW ws) := by
  intro d
  induction d with
  | zero =>
   intro i hi
   rw [show i = (preL ws).length from by omega]
   exact Ev.step (fun k => spec_l7Machine.l1.eq_2 ..) (Ev.ifF (by rw [endsF_length]; omega) (states (preL ws).length 0 (by omega)))
  | succ d ih =>
   intro i hd
   have hi : i < (preL ws).length := by omega
   have hl := lastR hi
   have hfl := fL_length ws i (by omega)
   refine Ev.step (fun k => spec_l7Machine.l1.eq_2 ..) (Ev.ifT (by rw [endsF_length]; omega) (Ev.ifT (by omega) ?_))
   rw [eget hi]
   refine Ev.ifT (by omega) (Ev.ifT (by rw [placeP_length]; omega) ?_)
   rw [placeP_last hi]
   have hih := ih (i + 1) (by omega)
   by_cases hn : (resL ws).getD i [] ∈ fL ws i
   ·
    rw [if_pos hn, wrap64_succ i (by omega)]
    refine Ev.ifF (by omega) ?_
    have e : placeP ws (i + 1) = placeP ws i := by
     unfold placeP
     rw [fL_succ hi, if_pos hn]
    rw [e, fL_succ hi, if_pos hn] at hih
    exact hih
   rw [if_neg hn, wrap64_succ i (by omega)]
   refine Ev.ifT (by omega) ?_
   rw [Int.toNat_natCast, placeP_set hi hn, wrap64_succ _ (by omega)]
   rw [show (fL ws (i + 1)).length = (fL ws i).length + 1 from by rw [fL_succ hi, if_neg hn, List.length_append]; rfl] at hih
   exact hih
 have fills : ∀ d i, i + d = (preL ws).length → Ev (fun k => spec_l7Machine.l0 k (kidsW ws) (endsF ws) (List.replicate i (-1) ++ List.replicate d 0) 0 (i : Int) (trN (preL ws) ws)) (machW ws) := by
  intro d
  induction d with
  | zero =>
   intro i hi
   have e : List.replicate i (-1 : Int) ++ List.replicate 0 0 = placeP ws 0 := by
    rw [List.replicate_zero, List.append_nil]
    unfold placeP
    rw [fL_zero]
    apply List.ext_getElem
    ·
     simp; omega
    intro g g1 g2; simp
   rw [e]
   exact Ev.step (fun k => spec_l7Machine.l0.eq_2 ..) (Ev.ifF (by rw [endsF_length]; omega) (nums (preL ws).length 0 (by omega)))
  | succ d ih =>
   intro i hd
   refine Ev.step (fun k => spec_l7Machine.l0.eq_2 ..) (Ev.ifT (by rw [endsF_length]; omega) (Ev.ifT (by omega) (Ev.ifT (by simp; omega) ?_)))
   have e : (List.replicate i (-1 : Int) ++ List.replicate (d + 1) 0).set i (-1) = List.replicate (i + 1) (-1) ++ List.replicate d 0 := by
    rw [List.set_append_right _ _ (by simp), List.length_replicate, Nat.sub_self, List.replicate_succ, List.set_cons_zero, List.replicate_succ', List.append_assoc]
    rfl
   rw [Int.toNat_natCast, e, wrap64_succ i (by omega)]
   exact ih (i + 1) (by omega)
 unfold spec_l7Machine.f
 refine Ev.bind (l7Kids_ev h) (Ev.bind (l7Ends_ev h) (Ev.ifT (by omega) (Ev.ifT (by rw [endsF_length]; omega) ?_)))
 rw [Int.toNat_natCast, endsF_length]
 have := fills (preL ws).length 0 (by omega)
 rw [List.replicate_zero, List.nil_append] at this
 exact this
end Mach
end Go.Proofs.YtnnkedeohfbkeaaGreatDoor.L
namespace Go.Proofs.YtnnkedeohfbkeaaGreatDoor.L
open Go.RowKit Go.Proofs.YtnnkedeohfbkeaaGreatDoor.P Go.Proofs.YtnnkedeohfbkeaaGreatDoor.M Go.Proofs.YtnnkedeohfbkeaaGreatDoorW.PrintWords Go.Proofs.YtnnkedeohfbkeaaGreatDoorW.PrintLast Go.Proofs.YtnnkedeohfbkeaaGreatDoorW.PrintMore
def wordsGo : List Nd → List Txt → List Txt
 | n :: r, p :: ps => if n.f2 = true then p :: wordsGo r ps else wordsGo r ps
 | _, _ => []
theorem wordsGo_tr (P ws : List Txt) : ∀ Q : List Txt, wordsGo (Q.map fun p => mkN (ndL P ws p)) Q = Q.filter fun p => decide (p ∈ ws)
 | [] => rfl
 | q :: Q => by
  rw [List.map_cons, wordsGo, wordsGo_tr P ws Q, List.filter_cons]
  rfl
theorem words_loop (N : List Nd) (ps : List Txt) (hN : N.length ≤ 1000000) (hp : ps.length = N.length) : ∀ (d i : Nat) (acc : List Txt), i + d = N.length → acc.length ≤ i →
  Ev (fun k => impl_Trie_words.l0 k (ps.map B) (acc.map B) N (N.length : Int) (i : Int)) ((acc ++ wordsGo (N.drop i) (ps.drop i)).map B) := by
 intro d
 induction d with
 | zero =>
  intro i acc h1 h2
  rw [List.drop_of_length_le (by omega)]
  exact Ev.step (fun k => impl_Trie_words.l0.eq_2 ..) (Ev.ifF (by omega) (by simpa [wordsGo] using Ev.now _))
 | succ d ih =>
  intro i acc h1 h2
  have hi : i < N.length := by omega
  rw [List.drop_eq_getElem_cons hi, drop_cons_getD [] (show i < ps.length by omega), wordsGo]
  refine Ev.step (fun k => impl_Trie_words.l0.eq_2 ..) (Ev.ifT (by omega) (Ev.ifT (by omega) (Ev.ifT (by omega) ?_)))
  rw [rd_get N i hi]
  by_cases hf : N[i].f2 = true
  ·
   rw [if_pos hf]
   refine Ev.ifT hf (Ev.ifT (by rw [List.length_map]; omega) (Ev.ifT (by rw [List.length_map]; omega) ?_))
   rw [rdB ps i (by omega), wrap64_succ i (by omega)]
   have := ih (i + 1) (acc ++ [ps.getD i []]) (by omega) (by simp; omega)
   rw [List.map_append (l₁ := acc), List.map_singleton, List.append_assoc] at this
   exact this
  rw [if_neg hf]
  refine Ev.ifF hf ?_
  rw [wrap64_succ i (by omega)]
  exact ih (i + 1) acc (by omega) (by omega)
theorem words_of {N : List Nd} {ps : List Txt} (h : prefN N = some ps) : N.length ≤ 481 ∧ ps.length = N.length ∧ (∀ p ∈ ps, ∀ c ∈ p, letterB c = true) ∧ Ev (fun k => impl_Trie_words.f k N) ((wordsGo N ps).map B) := by
 have hp := prefixes_ev N
 rw [h] at hp
 unfold prefN at h
 by_cases hn : 1 ≤ N.length ∧ N.length ≤ 481
 ·
  rw [if_pos hn] at h
  obtain ⟨h1, h2⟩ := prefGo_ok _ _ _ h (by simp)
  rw [List.length_drop, List.length_singleton] at h2
  refine ⟨hn.2, by omega, h1, ?_⟩
  unfold impl_Trie_words.f
  refine Ev.bind hp ?_
  exact words_loop N ps (by omega) (by omega) N.length 0 [] (by omega) (by simp)
 rw [if_neg hn] at h; cases h
theorem words_ev {ws : List Txt} (h : OkW ws) : Ev (fun k => impl_Trie_words.f k (trN (preL ws) ws)) (ws.map B) := by
 obtain ⟨_, _, _, h4⟩ := words_of (prefN_tr h)
 have e : wordsGo (trN (preL ws) ws) (preL ws) = ws := by
  have : trN (preL ws) ws = (preL ws).map fun p => mkN (ndL (preL ws) ws p) := by unfold trN nodesL; rw [List.map_map]; rfl
  rw [this, wordsGo_tr, filter_preL h.asc]
 rwa [e] at h4
theorem HasPrefix_eq (s p : List UInt8) (hs : s.length ≤ 4611686018427387900) (hp : p.length ≤ 4611686018427387900) : strings_HasPrefix.f (B s) (B p) = some (hasPre s p) := by
 unfold strings_HasPrefix.f stringslite_HasPrefix.f hasPre
 by_cases h : p.length ≤ s.length
 ·
  rw [if_pos (by simp; omega), if_pos (by omega), if_pos (by simp; omega)]; simp
 rw [if_neg (by simp; omega)]
 have : (s.take p.length == p) = false := by
  simp only [beq_eq_false_iff_ne]
  intro e
  have := congrArg List.length e
  simp at this; omega
 simp [this]
end Go.Proofs.YtnnkedeohfbkeaaGreatDoor.L
namespace Go.Proofs.YtnnkedeohfbkeaaGreatDoor.L
open Go.RowKit Go.Proofs.YtnnkedeohfbkeaaGreatDoor.P Go.Proofs.YtnnkedeohfbkeaaGreatDoor.M Go.Proofs.YtnnkedeohfbkeaaGreatDoorW.PrintWords Go.Proofs.YtnnkedeohfbkeaaGreatDoorW.PrintLast Go.Proofs.YtnnkedeohfbkeaaGreatDoorW.PrintMore
namespace Mach
theorem under_m {ws : List Txt} (h : OkW ws) (p : Txt) (hp : p.length ≤ 4611686018427387900) : Ev (fun k => impl_Trie_under.f k (trN (preL ws) ws) (B p)) ((ws.filter fun w => hasPre w p).map B) := by
 unfold impl_Trie_under.f
 refine Ev.bind (words_ev h) (Ev.ifT (by rw [List.length_map]; have := h.len; omega) ?_)
 rw [filt_of (fun x => hasPre x.data.toList p) (fun x hx => by
  obtain ⟨w, hw, rfl⟩ := List.mem_map.1 hx
  rw [data_B]
  exact HasPrefix_eq w p (by have := h.le w hw; omega) hp)]
 rw [List.filter_map]
 have e : (fun x : ByteArray => hasPre x.data.toList p) ∘ B = fun w => hasPre w p := by
  funext w; show hasPre (B w).data.toList p = _; rw [data_B]
 rw [e]
 exact Ev.now _
theorem behind_ev {ws : List Txt} (h : OkW ws) (p : Txt) (hp : p.length ≤ 4611686018427387900) : Ev (fun k => impl_Trie_behind.f k (trN (preL ws) ws) (B p)) ((behL ws p).map B) := by
 unfold impl_Trie_behind.f
 refine Ev.bind (under_m h p hp) (Ev.ifT ⟨?_, ?_⟩ ?_)
 ·
  rw [List.length_map]
  have h1 := List.length_filter_le (fun w => hasPre w p) ws
  have h2 := h.len
  omega
 ·
  rw [List.all_eq_true]
  intro x hx
  obtain ⟨w, hw, rfl⟩ := List.mem_map.1 hx
  obtain ⟨h1, h2⟩ := List.mem_filter.1 hw
  have h3 := (hasPre_pre.1 h2).length_le
  have h4 := h.le w h1
  rw [decide_eq_true_eq, size_B, size_B]
  omega
 rw [List.map_map]
 unfold behL
 rw [List.map_map]
 have e : ∀ w ∈ ws.filter fun w => hasPre w p, (impl_Trie_behind.cut (B p) ∘ B) w = (B ∘ fun w : Txt => w.drop p.length) w := fun w _ => by
  show (B w).extract (B p).size (B w).size = B (w.drop p.length)
  rw [extract_B, size_B, size_B, List.take_of_length_le (by rw [List.length_drop]; omega)]
 rw [List.map_congr_left e]
 exact Ev.now _
theorem ends_in {ws : List Txt} (h : OkW ws) (P : List ByteArray) (N : List S96) (E : List ByteArray) (n : Int) (b : List Txt) (m : Nat) (hb : Res m b) (hm : m ≤ 12) (hl : b.length ≤ 40) (hE : E.length ≤ 1000000) (r : List ByteArray)
  (hr : Ev (fun k => impl_Trie_ends.l0 k (E ++ [B (joinT b)]) P (P.length : Int) (wrap64 (n + 1)) N) r) :
  ∀ d i (acc : Txt), i + d = b.length → acc ++ joinT (b.drop i) = joinT b → acc.length ≤ 13 * i → Ev (fun k => impl_Trie_ends.l1 k E (B acc) P (P.length : Int) n (b.map B) ((b.map B).length : Int) (i : Int) N) r := by
 intro d
 induction d with
 | zero =>
  intro i acc h1 h2 h3
  rw [List.drop_of_length_le (by omega)] at h2
  rw [show joinT [] = [] from rfl, List.append_nil] at h2
  refine Ev.step (fun k => impl_Trie_ends.l1.eq_2 ..) (Ev.ifF (by rw [List.length_map]; omega) (Ev.ifT (by omega) ?_))
  rw [h2]
  exact hr
 | succ d ih =>
  intro i acc h1 h2 h3
  have hi : i < b.length := by omega
  have hw := hb.len _ (getD_mem hi)
  rw [drop_cons_getD [] hi] at h2
  have e : (⟨#[44]⟩ : ByteArray) = B [44] := rfl
  refine Ev.step (fun k => impl_Trie_ends.l1.eq_2 ..) (Ev.ifT (by rw [List.length_map]; omega) (Ev.ifT (by omega) (Ev.ifT (by rw [List.length_map]; omega) ?_)))
  rw [rdB b i hi, e, append_B]
  refine Ev.ifT (by rw [size_B]; omega) (Ev.ifT (by rw [size_B, size_B, List.length_append, List.length_singleton]; omega) ?_)
  rw [append_B, wrap64_succ i (by omega)]
  refine ih (i + 1) _ (by omega) ?_ ?_
  ·
   rw [← h2, joinT]
   simp
  rw [List.length_append, List.length_append, List.length_singleton]
  omega
def endsT (ws : List Txt) : List ByteArray := (resL ws).map fun b => B (joinT b)
theorem endsT_length (ws : List Txt) : (endsT ws).length = (preL ws).length := by unfold endsT; rw [List.length_map, resL_length]
theorem ends_ev {ws : List Txt} (h : OkW ws) : Ev (fun k => impl_Trie_ends.f k (trN (preL ws) ws)) (endsT ws) := by
 have hP := h.pre
 have loop : ∀ d n, n + d = (preL ws).length → Ev (fun k => impl_Trie_ends.l0 k ((endsT ws).take n) ((preL ws).map B) (((preL ws).map B).length : Int) (n : Int) (trN (preL ws) ws)) (endsT ws) := by
  intro d
  induction d with
  | zero =>
   intro n hn
   rw [List.take_of_length_le (by rw [endsT_length]; omega)]
   exact Ev.step (fun k => impl_Trie_ends.l0.eq_2 ..) (Ev.ifF (by rw [List.length_map]; omega) (Ev.now _))
  | succ d ih =>
   intro n hn
   have hi : n < (preL ws).length := by omega
   have hw := (wordL_iff.1 (preL_word h.word (getD_mem hi))).2
   refine Ev.step (fun k => impl_Trie_ends.l0.eq_2 ..) (Ev.ifT (by rw [List.length_map]; omega) (Ev.ifT (by omega) (Ev.ifT (by rw [List.length_map]; omega) ?_)))
   rw [rdB _ n hi]
   refine Ev.bind (behind_ev h _ (by omega)) ?_
   have hb40 : (behL ws ((preL ws).getD n [])).length ≤ 40 := by
    unfold behL
    rw [List.length_map]
    exact Nat.le_trans (List.length_filter_le _ _) h.len
   refine ends_in h _ _ _ _ _ 12 (Res.beh12 h _) (Nat.le_refl _) hb40 (by rw [List.length_take]; omega) _ ?_ (behL ws ((preL ws).getD n [])).length 0 [] (by omega) rfl (by simp)
   rw [wrap64_succ n (by omega)]
   have e : (endsT ws).take n ++ [B (joinT (behL ws ((preL ws).getD n [])))] = (endsT ws).take (n + 1) := by
    rw [List.take_succ_eq_append_getElem (by rw [endsT_length]; exact hi)]
    congr 2
    unfold endsT
    rw [List.getElem_map, ← resL_get hi, getD_lt [] (by rw [resL_length]; exact hi)]
   rw [e]
   exact ih (n + 1) (by omega)
 unfold impl_Trie_ends.f
 exact Ev.bind (prefixes_tr h) (loop (preL ws).length 0 (by omega))
end Mach
end Go.Proofs.YtnnkedeohfbkeaaGreatDoor.L
namespace Go.Proofs.YtnnkedeohfbkeaaGreatDoor.L
open Go.RowKit Go.Proofs.YtnnkedeohfbkeaaGreatDoor.P Go.Proofs.YtnnkedeohfbkeaaGreatDoor.M Go.Proofs.YtnnkedeohfbkeaaGreatDoorW.PrintWords Go.Proofs.YtnnkedeohfbkeaaGreatDoorW.PrintLast Go.Proofs.YtnnkedeohfbkeaaGreatDoorW.PrintMore
namespace Mach
theorem kids_m {ws : List Txt} (h : OkW ws) {i : Nat} (hi : i < (preL ws).length) : Ev (fun k => impl_Trie_kids.f k (trN (preL ws) ws) (i : Int)) (kidW ws i) := by
 have hA := asc_preL ws
 have hC := clo_preL ws
 have hP := h.pre
 have cond : ∀ {n}, n < (preL ws).length → ((rd_T96 (trN (preL ws) ws) (n : Int)).f1 = (i : Int) ↔ isKid (preL ws) ((preL ws).getD i []) n = true) := fun {n} hn => by
  rcases Nat.eq_zero_or_pos n with h0 | h0
  ·
   subst h0
   obtain ⟨z1, z2⟩ := clo_zero hA hC
   rw [rdN _ ws 0 hn]
   unfold isKid
   rw [z2]
   have : (mkN (ndL (preL ws) ws [])).f1 = -1 := rfl
   rw [this]
   simp
   try omega
  rw [f1_pos ws hA hC hn h0]
  obtain ⟨p1, p2⟩ := clo_parent hA hC hn h0
  unfold isKid
  rw [decide_eq_true_eq]
  constructor
  ·
   intro e
   refine ⟨clo_pos hA hC hn h0, ?_⟩
   rw [← p2]
   congr 1
   omega
  rintro ⟨_, e⟩
  rw [e, placeL_get hA hi]
 have loop : ∀ d n, n + d = (preL ws).length → Ev (fun k => impl_Trie_kids.l0 k (i : Int) (kidU (preL ws) ((preL ws).getD i []) n) (trN (preL ws) ws) ((trN (preL ws) ws).length : Int) (n : Int)) (kidW ws i) := by
  intro d
  induction d with
  | zero =>
   intro n hn
   rw [show n = (preL ws).length from by omega, kidW_eq h]
   exact Ev.step (fun k => impl_Trie_kids.l0.eq_2 ..) (Ev.ifF (by rw [trN_length]; omega) (Ev.now _))
  | succ d ih =>
   intro n h1
   have hn : n < (preL ws).length := by omega
   have hk := kidU_length (preL ws) ((preL ws).getD i []) n
   have hih := ih (n + 1) (by omega)
   refine Ev.step (fun k => impl_Trie_kids.l0.eq_2 ..) (Ev.ifT (by rw [trN_length]; omega) (Ev.ifT (by omega) (Ev.ifT (by rw [trN_length]; omega) ?_)))
   rw [kidU_succ] at hih
   rw [wrap64_succ n (by omega)]
   by_cases hc : isKid (preL ws) ((preL ws).getD i []) n = true
   ·
    rw [if_pos hc] at hih
    exact Ev.ifT ((cond hn).2 hc) (Ev.ifT (by omega) hih)
   rw [if_neg hc, List.append_nil] at hih
   exact Ev.ifF (fun e => hc ((cond hn).1 e)) hih
 exact loop (preL ws).length 0 (by omega)
def keyT (b : List Txt) : ByteArray := B (joinT b)
theorem keyT_eq {n m : Nat} {a b : List Txt} (ha : Res n a) (hb : Res m b) : (keyT a).data.toList = (keyT b).data.toList ↔ a = b := by
 unfold keyT
 rw [data_B, data_B, joinT_res ha hb]
theorem has_key : ∀ (l : List (List Txt)) (b : List Txt), (∀ x ∈ l, Res 12 x) → Res 12 b → SM.has_ (l.map keyT) (keyT b) = decide (b ∈ l)
 | [], _, _, _ => rfl
 | x :: l, b, hl, hb => by
  rw [List.map_cons, SM.has_cons, has_key l b (fun y hy => hl y (List.mem_cons_of_mem _ hy)) hb, Bool.eq_iff_iff, Bool.or_eq_true, decide_eq_true_eq, decide_eq_true_eq, decide_eq_true_eq, keyT_eq (hl x List.mem_cons_self) hb, List.mem_cons]
  exact ⟨fun h => h.imp_left Eq.symm, fun h => h.imp_left Eq.symm⟩
theorem at_snoc (l : List ByteArray) (x p : ByteArray) : SM.at_ (l ++ [x]) p = if x.data.toList = p.data.toList then (l.length : Int) else SM.at_ l p := by
 unfold SM.at_
 rw [List.reverse_append]
 show (if _ then ((l.reverse.length : Nat) : Int) else _) = _
 rw [List.length_reverse]
 rfl
theorem at_key : ∀ (d : Nat) (l : List (List Txt)) (b : List Txt), l.length = d → (∀ x ∈ l, Res 12 x) → l.Nodup → b ∈ l → SM.at_ (l.map keyT) (keyT b) = (l.idxOf b : Int)
 | 0, l, b, hd, _, _, hm => by rw [List.length_eq_zero_iff.1 hd] at hm; cases hm
 | d + 1, l, b, hd, hl, hn, hm => by
  have hne : l ≠ [] := fun e => by rw [e] at hm; cases hm
  obtain ⟨r, y, rfl⟩ : ∃ r y, l = r ++ [y] := ⟨l.dropLast, l.getLast hne, (List.dropLast_concat_getLast hne).symm⟩
  have hrl : r.length = d := by rw [List.length_append, List.length_singleton] at hd; omega
  rw [List.map_append, List.map_singleton, at_snoc, List.length_map]
  rw [List.nodup_append] at hn
  have hb : Res 12 b := hl b hm
  by_cases e : y = b
  ·
   subst e
   have hnr : y ∉ r := fun k => hn.2.2 y k y (List.mem_singleton.2 rfl) rfl
   rw [if_pos rfl, idx_new hnr]
  have hbr : b ∈ r := by
   rcases List.mem_append.1 hm with k | k
   ·
    exact k
   exact absurd (List.mem_singleton.1 k).symm e
  rw [if_neg (fun k => e ((keyT_eq (hl y (List.mem_append_right _ (List.mem_singleton.2 rfl))) hb).1 k)), at_key d r b hrl (fun x hx => hl x (List.mem_append_left _ hx)) hn.1 hbr, idx_pre (List.prefix_append _ _) hbr]
theorem fL_res {ws : List Txt} (h : OkW ws) {n : Nat} (hn : n ≤ (preL ws).length) : ∀ x ∈ fL ws n, Res 12 x := fun x hx => dL_res h ((fL_pre' hn).subset hx)
theorem endsT_get {ws : List Txt} {n : Nat} (hn : n < (preL ws).length) : rdOf ByteArray.empty (endsT ws) (n : Int) = keyT ((resL ws).getD n []) := by
 unfold rdOf endsT
 rw [Int.toNat_natCast, getD_lt _ (by simpa [resL_length] using hn), List.getElem_map, getD_lt [] (by rw [resL_length]; exact hn)]
 rfl
theorem fB_eq {ws : List Txt} (h : OkW ws) : ∀ n, n ≤ (preL ws).length → impl_Trie_machine.fB (endsT ws) n = (fL ws n).map keyT
 | 0, _ => rfl
 | n + 1, hn => by
  rw [impl_Trie_machine.fB, fB_eq h n (by omega), endsT_get (by omega), has_key _ _ (fL_res h (by omega)) (dL_res h (res_mem (by omega))), fL_succ (by omega)]
  by_cases hm : (resL ws).getD n [] ∈ fL ws n
  ·
   rw [if_pos hm, if_pos (decide_eq_true hm)]
  rw [if_neg hm, if_neg (by rw [decide_eq_false hm]; exact Bool.false_ne_true), List.map_append]; rfl
def st0 (b : List Txt) : S72 := ⟨decide ([] ∈ b), []⟩
theorem sB_eq {ws : List Txt} (h : OkW ws) : ∀ n, n ≤ (preL ws).length → impl_Trie_machine.sB (trN (preL ws) ws) (endsT ws) n = (fL ws n).map st0
 | 0, _ => rfl
 | n + 1, hn => by
  rw [impl_Trie_machine.sB, sB_eq h n (by omega), fB_eq h n (by omega), endsT_get (by omega), has_key _ _ (fL_res h (by omega)) (dL_res h (res_mem (by omega))), fL_succ (by omega), end_eq (by omega)]
  by_cases hm : (resL ws).getD n [] ∈ fL ws n
  ·
   rw [if_pos hm, if_pos (decide_eq_true hm)]
  rw [if_neg hm, if_neg (by rw [decide_eq_false hm]; exact Bool.false_ne_true), List.map_append]; rfl
def idsW (ws : List Txt) (n : Nat) : List Int := (List.range n).map fun j => ((dL ws).idxOf ((resL ws).getD j []) : Int)
theorem iB_eq {ws : List Txt} (h : OkW ws) : ∀ n, n ≤ (preL ws).length → impl_Trie_machine.iB (endsT ws) n = idsW ws n
 | 0, _ => rfl
 | n + 1, hn => by
  rw [impl_Trie_machine.iB, iB_eq h n (by omega), fB_eq h (n + 1) hn, endsT_get (by omega), at_key _ _ _ rfl (fL_res h hn) (fL_nodup _ _) (fL_mem (by omega)), ← idx_met hn (fL_mem (by omega))]
  unfold idsW
  rw [List.range_succ, List.map_append]
  rfl
theorem idsW_get {ws : List Txt} {n j : Nat} (hj : j < n) : rd (idsW ws n) (j : Int) = ((dL ws).idxOf ((resL ws).getD j []) : Int) := by
 rw [rd_nat]
 unfold idsW
 rw [getD_lt 0 (by simpa using hj)]
 simp
theorem idsW_length (ws : List Txt) (n : Nat) : (idsW ws n).length = n := by simp [idsW]
def doneW (ws : List Txt) (n : Nat) : List Bool := (dL ws).map fun b => decide (b ∈ fL ws n)
def stsW (ws : List Txt) (n : Nat) : List S72 := (dL ws).map fun b => if b ∈ fL ws n then stW ws b else st0 b
theorem map_idx {α : Type} (z : α) {ws : List Txt} {b : List Txt} (hb : b ∈ dL ws) (g : List Txt → α) : ((dL ws).map g).getD ((dL ws).idxOf b) z = g b := by
 rw [List.getD_eq_getElem?_getD, List.getElem?_map, idx_get hb]
 rfl
theorem map_set {α : Type} {ws : List Txt} {b : List Txt} (hb : b ∈ dL ws) (g g' : List Txt → α) (hg : ∀ x ∈ dL ws, x ≠ b → g' x = g x) : ((dL ws).map g).set ((dL ws).idxOf b) (g' b) = (dL ws).map g' := by
 apply List.ext_getElem
 ·
  rw [List.length_set, List.length_map, List.length_map]
 intro j j1 j2
 rw [List.getElem_set, List.getElem_map, List.getElem_map]
 have hj : j < (dL ws).length := by rw [List.length_map] at j2; exact j2
 by_cases e : (dL ws).idxOf b = j
 ·
  rw [if_pos e]
  have h1 := idx_get hb
  rw [e, List.getElem?_eq_getElem hj] at h1
  rw [Option.some.inj h1]
 rw [if_neg e]
 refine (hg _ (List.getElem_mem hj) fun k => e ?_).symm
 have hnd : (dL ws).Nodup := by have := fL_nodup ws (preL ws).length; rwa [fL_all] at this
 rw [← k]
 exact idxOf_nodup hnd j hj
theorem machine_ev {ws : List Txt} (h : OkW ws) : Ev (fun k => impl_Trie_machine.f k (trN (preL ws) ws)) (machW ws, idsW ws (preL ws).length) := by
 have hP := h.pre
 have hDl := dL_length h
 have loop : ∀ d i, i + d = (preL ws).length → Ev (fun k => impl_Trie_machine.l1 k (trN (preL ws) ws) (idsW ws (preL ws).length) d i (doneW ws i) (stsW ws i)) (machW ws) := by
  intro d
  induction d with
  | zero =>
   intro i hi
   have e : stsW ws i = machW ws := by
    unfold stsW machW
    refine List.map_congr_left fun b hb => ?_
    rw [show i = (preL ws).length from by omega, fL_all, if_pos hb]
   rw [e]
   exact Ev.now _
  | succ d ih =>
   intro i hd
   have hi : i < (preL ws).length := by omega
   have hm := res_mem hi
   have hlt := idx_lt hm
   have hih := ih (i + 1) (by omega)
   have hdone : rdOf false (doneW ws i) ((dL ws).idxOf ((resL ws).getD i []) : Int) = decide ((resL ws).getD i [] ∈ fL ws i) := by
    unfold rdOf doneW
    rw [Int.toNat_natCast, map_idx false hm]
   have hsts : rd_T72 (stsW ws i) ((dL ws).idxOf ((resL ws).getD i []) : Int) = if (resL ws).getD i [] ∈ fL ws i then stW ws ((resL ws).getD i []) else st0 ((resL ws).getD i []) := by
    unfold rd_T72 stsW
    rw [Int.toNat_natCast, map_idx _ hm]
   unfold impl_Trie_machine.l1
   rw [idsW_get hi, hdone]
   refine Ev.ifT ⟨by omega, by unfold stsW; rw [List.length_map]; omega, by unfold doneW; rw [List.length_map]; omega⟩ ?_
   by_cases hn : (resL ws).getD i [] ∈ fL ws i
   ·
    refine Ev.ifT (decide_eq_true hn) ?_
    have e1 : doneW ws (i + 1) = doneW ws i := by unfold doneW; rw [fL_succ hi, if_pos hn]
    have e2 : stsW ws (i + 1) = stsW ws i := by unfold stsW; rw [fL_succ hi, if_pos hn]
    rw [e1, e2] at hih
    exact hih
   refine Ev.ifF (by rw [decide_eq_false hn]; exact Bool.false_ne_true) (Ev.bind (kids_m h hi) ?_)
   rw [hsts, if_neg hn]
   have l26 := letsL_length ((resL ws).getD i [])
   have hkl : (kidW ws i).length = (letsL ((resL ws).getD i [])).length := by rw [kidW_length, resL_get hi]
   have hok : impl_Trie_machine.okk (trN (preL ws) ws) (idsW ws (preL ws).length) (kidW ws i) = true := by
    unfold impl_Trie_machine.okk
    rw [List.all_eq_true]
    intro x hx
    obtain ⟨j, hj, rfl⟩ := List.getElem_of_mem hx
    obtain ⟨q, q1, q2, _⟩ := kid_at h hi hj
    rw [getD_lt 0 hj] at q1
    rw [q1, decide_eq_true_eq, trN_length, idsW_length]
    omega
   refine Ev.ifT ⟨hok, by omega, by unfold st0; simp⟩ ?_
   have hF : ∀ x, x ∈ fL ws (i + 1) ↔ x ∈ fL ws i ∨ x = (resL ws).getD i [] := fun x => by rw [fL_succ hi, if_neg hn, List.mem_append, List.mem_singleton]
   have e1 : (doneW ws i).set ((dL ws).idxOf ((resL ws).getD i []) : Int).toNat true = doneW ws (i + 1) := by
    rw [Int.toNat_natCast]
    have := map_set hm (fun b => decide (b ∈ fL ws i)) (fun b => decide (b ∈ fL ws (i + 1))) (fun x _ hx => by
     congr 1
     exact propext ((hF x).trans ⟨fun k => k.resolve_right hx, .inl⟩))
    rw [decide_eq_true (fL_mem hi)] at this
    exact this
   have e2 : (stsW ws i).set ((dL ws).idxOf ((resL ws).getD i []) : Int).toNat (impl_Trie_machine.add (trN (preL ws) ws) (idsW ws (preL ws).length) (kidW ws i) (st0 ((resL ws).getD i []))) = stsW ws (i + 1) := by
    rw [Int.toNat_natCast]
    have := map_set hm (fun b => if b ∈ fL ws i then stW ws b else st0 b) (fun b => if b ∈ fL ws (i + 1) then stW ws b else st0 b) (fun x _ hx => by
     have : x ∈ fL ws (i + 1) ↔ x ∈ fL ws i := (hF x).trans ⟨fun k => k.resolve_right hx, .inl⟩
     by_cases k : x ∈ fL ws i
     ·
      show (if _ then _ else _) = (if _ then _ else _)
      rw [if_pos k, if_pos (this.2 k)]
     show (if _ then _ else _) = (if _ then _ else _)
     rw [if_neg k, if_neg (fun z => k (this.1 z))])
    simp only [if_pos (fL_mem hi)] at this
    have e3 : impl_Trie_machine.add (trN (preL ws) ws) (idsW ws (preL ws).length) (kidW ws i) (st0 ((resL ws).getD i [])) = stW ws ((resL ws).getD i []) := by
     rw [stW_eq]
     unfold impl_Trie_machine.add st0
     congr 1
     rw [List.nil_append]
     apply List.ext_getElem
     ·
      rw [List.length_map, List.length_map, hkl]
     intro j j1 j2
     have hj : j < (kidW ws i).length := by rw [List.length_map] at j1; exact j1
     obtain ⟨q, q1, q2, q3, q4, q5, q6⟩ := kid_at h hi hj
     rw [getD_lt 0 hj] at q1
     rw [getD_lt 0 (by omega)] at q5 q6
     rw [List.getElem_map, List.getElem_map, q1, q5, idsW_get q2, q6]
     rfl
    rw [e3]
    exact this
   rw [e1, e2]
   exact hih
 unfold impl_Trie_machine.f
 refine Ev.bind (ends_ev h) (Ev.ifT ⟨by rw [endsT_length, trN_length], by rw [trN_length]; omega, ?_⟩ ?_)
 ·
  unfold SM.okL
  rw [Bool.and_eq_true, List.all_eq_true, decide_eq_true_eq, endsT_length]
  refine ⟨fun x hx => ?_, by omega⟩
  unfold endsT at hx
  obtain ⟨b, hb, rfl⟩ := List.mem_map.1 hx
  obtain ⟨p, _, rfl⟩ := List.mem_map.1 hb
  have h1 := joinT_length (behL ws p) 12 (Res.beh12 h p).len
  have h2 : (behL ws p).length ≤ 40 := by
   unfold behL
   rw [List.length_map]
   exact Nat.le_trans (List.length_filter_le _ _) h.len
  rw [decide_eq_true_eq, size_B]
  have h3 : (behL ws p).length * 13 ≤ 40 * 13 := Nat.mul_le_mul_right _ h2
  omega
 rw [trN_length, iB_eq h _ (Nat.le_refl _), sB_eq h _ (Nat.le_refl _), fL_all, List.length_map]
 have e1 : List.replicate (dL ws).length false = doneW ws 0 := by
  unfold doneW
  rw [fL_zero]
  apply List.ext_getElem
  ·
   simp
  intro j j1 j2; simp
 have e2 : (dL ws).map st0 = stsW ws 0 := by
  unfold stsW
  refine List.map_congr_left fun b hb => ?_
  rw [fL_zero, if_neg (by simp)]
 rw [e1, e2]
 exact Ev.bind (loop (preL ws).length 0 (by omega)) (Ev.now _)
end Mach
end Go.Proofs.YtnnkedeohfbkeaaGreatDoor.L
namespace Go.Proofs.YtnnkedeohfbkeaaGreatDoor.L
open Go.RowKit Go.Proofs.YtnnkedeohfbkeaaGreatDoor.P Go.Proofs.YtnnkedeohfbkeaaGreatDoor.M Go.Proofs.YtnnkedeohfbkeaaGreatDoorW.PrintWords Go.Proofs.YtnnkedeohfbkeaaGreatDoorW.PrintLast Go.Proofs.YtnnkedeohfbkeaaGreatDoorW.PrintMore
namespace Mach
def IsM (m : List Stt) : Prop := ∃ ws, OkW ws ∧ m = machW ws
theorem machW_edges {ws : List Txt} : ∀ x ∈ machW ws, x.f1.length ≤ 26 := by
 intro x hx
 obtain ⟨b, _, rfl⟩ := List.mem_map.1 hx
 rw [stW_eq, List.length_map]
 exact letsL_length b
theorem dL_pos {ws : List Txt} (h : OkW ws) : 0 < (dL ws).length := List.length_pos_of_mem (self_dL h)
theorem okAll {ws : List Txt} (h : OkW ws) : ws.all wordL = true := List.all_eq_true.2 h.word
theorem ofWords_evM (W : List Txt) (hW : W.all wordL = true) (hl : W.length ≤ 1000000) : Ev (fun k => impl_ofWords.f k (W.map B)) (if (setL W).length ≤ 40 then (trN (preL (setL W)) (setL W), true) else ([], false)) := by
 unfold impl_ofWords.f
 rw [set_eq W (by omega)]
 refine Ev.some_bind ?_
 rw [List.length_map]
 by_cases h : (setL W).length ≤ 40
 ·
  rw [if_pos h]
  exact Ev.ifF (by omega) (Ev.bind (trieOf_ev (okW_setL hW h)) (Ev.now _))
 rw [if_neg h]
 exact Ev.ifT (by omega) (Ev.now _)
theorem cnt_all {ws : List Txt} (h : OkW ws) : cntL 12 ws ≤ 481 := by
 have := cntL_ok h []
 rw [behL_nil ws h.asc] at this
 exact this
theorem res_all {ws : List Txt} (h : OkW ws) : Res 12 ws := by
 have := Res.beh12 h []
 rw [behL_nil ws h.asc] at this
 exact this
theorem map_nilT (ws : List Txt) : ws.map ([] ++ ·) = ws := by simp
theorem walkAll_ev {ws : List Txt} (h : OkW ws) : Ev (fun k => spec_l7Walk.f k (machW ws) 0 (⟨#[]⟩ : ByteArray) 0) (ws.map B, (cntL 12 ws : Int)) := by
 have := walkW h 12 ws [] 0 (res_all h) (self_dL h) (by simp) (by have := cnt_all h; omega)
 rw [idx_zero h, map_nilT, Nat.zero_add] at this
 exact this
theorem l7Words_ev {ws : List Txt} (h : OkW ws) : Ev (fun k => spec_l7Words.f k (machW ws)) (ws.map B) := by
 unfold spec_l7Words.f
 exact Ev.bind (walkAll_ev h) (Ev.now _)
theorem valid_end (m : List Stt) (ws : List Txt) (g : Int) (hw : Ev (fun k => spec_l7Walk.f k m 0 (⟨#[]⟩ : ByteArray) 0) (ws.map B, g)) (hW : ws.all wordL = true) (hl : ws.length ≤ 1000) :
  Ev (fun k => spec_l7Valid.l0 k (m.length : Int) m) (if (setL ws).length ≤ 40 then decide (machW (setL ws) = m) else false) := by
 refine Ev.step (fun k => spec_l7Valid.l0.eq_2 ..) (Ev.ifF (by omega) (Ev.bind hw (Ev.bind (l2Set_ev (b := 12) ws (by omega) (fun w hw2 => (wordL_iff.1 (List.all_eq_true.1 hW w hw2)).2)) ?_)))
 rw [if_pos hW]
 by_cases h : (setL ws).length ≤ 40
 ·
  have ho := okW_setL hW h
  rw [if_pos h]
  refine Ev.ifT (decide_eq_true h) (Ev.bind (l2Of_ev ho) (Ev.bind (l7Machine_ev ho) (Ev.bind (l7Same_ev _ m ?_ ?_) (Ev.now _))))
  ·
   rw [machW_length]
   have := dL_length ho
   omega
  intro x hx
  have := machW_edges x hx
  omega
 rw [if_neg h]
 exact Ev.ifF (by simpa using h) (Ev.now _)
theorem valid_in (m : List Stt) (hl : m.length ≤ 481) (i : Nat) (hi : i < m.length) (hx : m[i].f1.length ≤ 1048576) : ∀ (d j : Nat), j + d = m[i].f1.length →
  (∀ r, Ev (fun k => spec_l7Valid.l0 k ((i + 1 : Nat) : Int) m) r → (∀ e ∈ m[i].f1.drop j, EdgeOk m.length e) → Ev (fun k => spec_l7Valid.l1 k (i : Int) (j : Int) m) r) ∧
  (¬ (∀ e ∈ m[i].f1.drop j, EdgeOk m.length e) → Ev (fun k => spec_l7Valid.l1 k (i : Int) (j : Int) m) false) := by
 intro d
 induction d with
 | zero =>
  intro j hj
  refine ⟨fun r hr _ => ?_, fun h => absurd (fun e he => ?_) h⟩
  ·
   refine Ev.step (fun k => spec_l7Valid.l1.eq_2 ..) (Ev.ifT (by omega) (Ev.ifT (by omega) (Ev.ifF ?_ ?_)))
   ·
    rw [rd_st hi]; omega
   rw [wrap64_succ i (by omega)]; exact hr
  rw [List.drop_eq_nil_of_le (by omega)] at he; cases he
 | succ d ih =>
  intro j hj
  have hjl : j < m[i].f1.length := by omega
  obtain ⟨ih1, ih2⟩ := ih (j + 1) (by omega)
  have e1 : wrap64 ((m.length : Int) - 1) = (m.length : Int) - 1 := wrap64_id (by omega) (by omega)
  have hd := List.drop_eq_getElem_cons hjl
  have step : ∀ {r : Bool}, Ev (fun k => if decide (0 ≤ m[i].f1[j].f0 ∧ m[i].f1[j].f0 ≤ 25) = true then (if decide (0 ≤ m[i].f1[j].f1 ∧ m[i].f1[j].f1 ≤ (m.length : Int) - 1) = true then spec_l7Valid.l1 k (i : Int) ((j + 1 : Nat) : Int) m else some false) else some false) r → Ev (fun k => spec_l7Valid.l1 k (i : Int) (j : Int) m) r := by
   intro r hr
   refine Ev.step (fun k => spec_l7Valid.l1.eq_2 ..) (Ev.ifT (by omega) (Ev.ifT (by omega) (Ev.ifT (by rw [rd_st hi]; omega) (Ev.ifT (by omega) ?_))))
   rw [rd_st hi, rd_edge hjl, e1, l1In_eq, l1In_eq, wrap64_succ j (by omega)]
   exact hr
  refine ⟨fun r hr he => step ?_, fun he => step ?_⟩
  ·
   rw [hd] at he
   obtain ⟨q0, q1, q2, q3⟩ := he _ List.mem_cons_self
   exact Ev.ifT (decide_eq_true ⟨q0, q1⟩) (Ev.ifT (decide_eq_true ⟨q2, by omega⟩) (ih1 r hr fun e h => he e (List.mem_cons_of_mem _ h)))
  by_cases h0 : 0 ≤ m[i].f1[j].f0 ∧ m[i].f1[j].f0 ≤ 25
  ·
   by_cases h1 : 0 ≤ m[i].f1[j].f1 ∧ m[i].f1[j].f1 ≤ (m.length : Int) - 1
   ·
    refine Ev.ifT (decide_eq_true h0) (Ev.ifT (decide_eq_true h1) (ih2 fun k => he ?_))
    rw [hd]
    intro e hm
    rcases List.mem_cons.1 hm with rfl | hm
    ·
     exact ⟨h0.1, h0.2, h1.1, by omega⟩
    exact k e hm
   exact Ev.ifT (decide_eq_true h0) (Ev.ifF (by simpa using h1) (Ev.now _))
  exact Ev.ifF (by simpa using h0) (Ev.now _)
theorem valid_out (m : List Stt) (hl : m.length ≤ 481) (hx : ∀ x ∈ m, x.f1.length ≤ 1048576) : ∀ (d i : Nat), i + d = m.length →
  (∀ r, Ev (fun k => spec_l7Valid.l0 k (m.length : Int) m) r → (∀ x ∈ m.drop i, ∀ e ∈ x.f1, EdgeOk m.length e) → Ev (fun k => spec_l7Valid.l0 k (i : Int) m) r) ∧
  (¬ (∀ x ∈ m.drop i, ∀ e ∈ x.f1, EdgeOk m.length e) → Ev (fun k => spec_l7Valid.l0 k (i : Int) m) false) := by
 intro d
 induction d with
 | zero =>
  intro i hi
  refine ⟨fun r hr _ => ?_, fun h => absurd (fun x hx => ?_) h⟩
  ·
   rw [show i = m.length from by omega]; exact hr
  rw [List.drop_eq_nil_of_le (by omega)] at hx; cases hx
 | succ d ih =>
  intro i hi
  have hil : i < m.length := by omega
  obtain ⟨ih1, ih2⟩ := ih (i + 1) (by omega)
  obtain ⟨in1, in2⟩ := valid_in m hl i hil (hx _ (List.getElem_mem hil)) m[i].f1.length 0 (by omega)
  rw [List.drop_zero] at in1 in2
  have hd := List.drop_eq_getElem_cons hil
  refine ⟨fun r hr he => ?_, fun he => ?_⟩
  ·
   rw [hd] at he
   exact Ev.step (fun k => spec_l7Valid.l0.eq_2 ..) (Ev.ifT (by omega) (in1 r (ih1 r hr fun x h => he x (List.mem_cons_of_mem _ h)) (he _ List.mem_cons_self)))
  refine Ev.step (fun k => spec_l7Valid.l0.eq_2 ..) (Ev.ifT (by omega) ?_)
  by_cases h1 : ∀ e ∈ m[i].f1, EdgeOk m.length e
  ·
   refine in1 false (ih2 fun k => he ?_) h1
   rw [hd]
   intro x hm
   rcases List.mem_cons.1 hm with rfl | hm
   ·
    exact h1
   exact k x hm
  exact in2 h1
theorem valid_yes {ws : List Txt} (h : OkW ws) : Ev (fun k => spec_l7Valid.f k (machW ws)) true := by
 have hp := dL_pos h
 have hd := dL_length h
 unfold spec_l7Valid.f
 rw [l1In_eq, machW_length]
 refine Ev.some_bind (Ev.ifT (decide_eq_true (by omega)) ?_)
 have h1 := valid_end (machW ws) ws _ (walkAll_ev h) (okAll h) (by have := h.len; omega)
 rw [setL_of_asc h.asc, if_pos h.len, decide_eq_true rfl] at h1
 have h2 := (valid_out (machW ws) (by rw [machW_length]; omega) (fun x hx => by have := machW_edges x hx; omega) (machW ws).length 0 (by omega)).1 true h1
 exact h2 fun x hx e he => (machW_ok h x (by simpa using hx)).2 e he
theorem valid_no {m : List Stt} (hn : ¬ IsM m) (hx : ∀ x ∈ m, x.f1.length ≤ 1048576) : Ev (fun k => spec_l7Valid.f k m) false := by
 unfold spec_l7Valid.f
 rw [l1In_eq]
 by_cases hl : (1 : Int) ≤ (m.length : Int) ∧ (m.length : Int) ≤ 481
 rotate_left
 ·
  exact Ev.some_bind (Ev.ifF (by simpa using hl) (Ev.now _))
 refine Ev.some_bind (Ev.ifT (decide_eq_true hl) ?_)
 obtain ⟨o1, o2⟩ := valid_out m (by omega) hx m.length 0 (by omega)
 rw [List.drop_zero] at o1 o2
 by_cases he : ∀ x ∈ m, ∀ e ∈ x.f1, EdgeOk m.length e
 ·
  obtain ⟨ws, g, hw, hwo⟩ := walk_ex m (fun x h => ⟨hx x h, he x h⟩) 12 [] 0 0 rfl (fun c hc => by cases hc) (by omega) (by omega) (by omega)
  have hW : ws.all wordL = true := List.all_eq_true.2 hwo.word
  have h1 := valid_end m ws g hw hW (by have := hwo.len; have := hwo.top; omega)
  refine o1 false ?_ he
  by_cases h40 : (setL ws).length ≤ 40
  ·
   rw [if_pos h40, decide_eq_false fun k => hn ⟨setL ws, okW_setL hW h40, k.symm⟩] at h1
   exact h1
  rw [if_neg h40] at h1
  exact h1
 exact o2 he
theorem open_yes {ws : List Txt} (h : OkW ws) : Ev (fun k => impl_Machine_open.f k (machW ws)) (trN (preL ws) ws, true) := by
 have hv := visitW h 12 ws [] [] 481 (res_all h) (self_dL h) (by simp) rfl (by have := cnt_all h; omega) (by omega) (by simp)
 rw [idx_zero h, map_nilT, List.nil_append] at hv
 have ho := ofWords_evM ws (okAll h) (by have := h.len; omega)
 rw [setL_of_asc h.asc, if_pos h.len] at ho
 have he := equalF_ev (machW ws) (machW ws) (by rw [machW_length]; have := dL_length h; omega) (fun x hx => by have := machW_edges x hx; omega)
 rw [decide_eq_true rfl] at he
 unfold impl_Machine_open.f
 exact Ev.bind hv (Ev.ifT rfl (Ev.bind ho (Ev.ifT rfl (Ev.bind (machine_ev h) (Ev.bind he (Ev.ifT rfl (Ev.now _)))))))
theorem open_no {m : List Stt} (hn : ¬ IsM m) : Ev (fun k => impl_Machine_open.f k m) (([] : List S96), false) := by
 obtain ⟨ok, out, l2, hv, hvo⟩ := visit_ex m 13 [] 0 [] 481 rfl (by omega) (by omega) (by simp)
 unfold impl_Machine_open.f
 refine Ev.bind hv ?_
 cases ok with
 | false => exact Ev.ifF Bool.false_ne_true (Ev.now _)
 | true =>
  refine Ev.ifT rfl ?_
  have hW : out.all wordL = true := List.all_eq_true.2 (hvo.word fun w hw => by cases hw)
  have ho := ofWords_evM out hW (by have h8 := hvo.low; have h9 := hvo.len; simp at h9; omega)
  refine Ev.bind ho ?_
  by_cases h40 : (setL out).length ≤ 40
  ·
   rw [if_pos h40]
   have hok := okW_setL hW h40
   have he := equalF_ev (machW (setL out)) m (by rw [machW_length]; have := dL_length hok; omega) (fun x hx => by have := machW_edges x hx; omega)
   rw [decide_eq_false fun k => hn ⟨setL out, hok, k.symm⟩] at he
   exact Ev.ifT rfl (Ev.bind (machine_ev hok) (Ev.bind he (Ev.ifF Bool.false_ne_true (Ev.now _))))
  rw [if_neg h40]
  exact Ev.ifF Bool.false_ne_true (Ev.now _)
theorem mach_both (m : List Stt) (hx : ∀ x ∈ m, x.f1.length ≤ 1048576) :
  (∃ ws, OkW ws ∧ m = machW ws ∧ Ev (fun k => spec_l7Valid.f k m) true ∧ Ev (fun k => impl_Machine_open.f k m) (trN (preL ws) ws, true)) ∨
  (Ev (fun k => spec_l7Valid.f k m) false ∧ Ev (fun k => impl_Machine_open.f k m) (([] : List S96), false)) := by
 by_cases h : IsM m
 ·
  obtain ⟨ws, hw, rfl⟩ := h
  exact .inl ⟨ws, hw, rfl, valid_yes hw, open_yes hw⟩
 exact .inr ⟨valid_no h hx, open_no h⟩
end Mach
end Go.Proofs.YtnnkedeohfbkeaaGreatDoor.L
namespace Go.Proofs.YtnnkedeohfbkeaaGreatDoor.L
open Go.RowKit Go.Proofs.YtnnkedeohfbkeaaGreatDoor.P Go.Proofs.YtnnkedeohfbkeaaGreatDoor.M Go.Proofs.YtnnkedeohfbkeaaGreatDoorW.PrintWords Go.Proofs.YtnnkedeohfbkeaaGreatDoorW.PrintLast Go.Proofs.YtnnkedeohfbkeaaGreatDoorW.PrintMore
namespace Mach
abbrev Lst := S90
def toM (l : List Lst) : List Stt := l.map fun x => ⟨x.f0, x.f1⟩
theorem toM_length (l : List Lst) : (toM l).length = l.length := List.length_map _
theorem rd_ls {l : List Lst} {i : Nat} (h : i < l.length) : rd_T90 l (i : Int) = l[i] := by
 unfold rd_T90
 rw [Int.toNat_natCast, List.getD_eq_getElem?_getD, List.getElem?_eq_getElem h]
 rfl
theorem szState_eq (x : Lst) (a : Int) (h0 : 0 ≤ a) (h1 : a ≤ 1048576) (hx : x.f1.length ≤ 9223372036854775807) : laws_szState.f x.f0 x.f1 a = some (if a - (x.f1.length : Int) < 0 then -1 else a - (x.f1.length : Int)) := by
 unfold laws_szState.f laws_szIntA2S.f
 rw [wrap64_id (by omega) (by omega)]
 by_cases h : a - (x.f1.length : Int) < 0
 ·
  rw [if_pos h, if_pos h]; rfl
 rw [if_neg h, if_neg h, Option.bind_some, if_neg h]
theorem sz_loop (l : List Lst) (hl : l.length ≤ 1048576) (hx : ∀ x ∈ l, x.f1.length ≤ 9223372036854775807) : ∀ (d i : Nat) (a : Int), i + d = l.length → 0 ≤ a → a ≤ 1048576 →
  ∃ c : Int, Ev (fun k => laws_szStateS.l0 k l a (i : Int)) c ∧ (c < 0 ∨ (0 ≤ c ∧ ∀ x ∈ l.drop i, x.f1.length ≤ 1048576)) := by
 intro d
 induction d with
 | zero =>
  intro i a hi h0 h1
  refine ⟨a, Ev.step (fun k => laws_szStateS.l0.eq_2 ..) (Ev.ifF (by omega) (Ev.now _)), .inr ⟨h0, fun x hx => ?_⟩⟩
  rw [List.drop_eq_nil_of_le (by omega)] at hx
  cases hx
 | succ d ih =>
  intro i a hi h0 h1
  have hil : i < l.length := by omega
  have hxi := hx _ (List.getElem_mem hil)
  by_cases h : a - (l[i].f1.length : Int) < 0
  ·
   refine ⟨-1, Ev.step (fun k => laws_szStateS.l0.eq_2 ..) (Ev.ifT (by omega) (Ev.ifT (by omega) ?_)), .inl (by omega)⟩
   rw [rd_ls hil, szState_eq _ a h0 h1 hxi, if_pos h]
   exact Ev.some_bind (Ev.ifT (by omega) (Ev.now _))
  obtain ⟨c, hc, hr⟩ := ih (i + 1) (a - (l[i].f1.length : Int)) (by omega) (by omega) (by omega)
  refine ⟨c, Ev.step (fun k => laws_szStateS.l0.eq_2 ..) (Ev.ifT (by omega) (Ev.ifT (by omega) ?_)), hr.imp_right fun ⟨k1, k2⟩ => ⟨k1, fun x hm => ?_⟩⟩
  ·
   rw [rd_ls hil, szState_eq _ a h0 h1 hxi, if_neg h, wrap64_succ i (by omega)]
   exact Ev.some_bind (Ev.ifF h hc)
  rw [List.drop_eq_getElem_cons hil] at hm
  rcases List.mem_cons.1 hm with rfl | hm
  ·
   omega
  exact k2 x hm
theorem szMachine_ev (l : List Lst) (hl : l.length ≤ 9223372036854775807) (hx : ∀ x ∈ l, x.f1.length ≤ 9223372036854775807) :
  ∃ c : Int, Ev (fun k => laws_szMachine.f k l 1048576) c ∧ (c < 0 ∨ (0 ≤ c ∧ l.length ≤ 1048576 ∧ ∀ x ∈ l, x.f1.length ≤ 1048576)) := by
 unfold laws_szMachine.f laws_szStateS.f
 rw [wrap64_id (by omega) (by omega)]
 by_cases h : 1048576 - (l.length : Int) < 0
 ·
  exact ⟨-1, Ev.bind (Ev.ifT h (Ev.now _)) (Ev.ifT (by omega) (Ev.now _)), .inl (by omega)⟩
 obtain ⟨c, hc, hr⟩ := sz_loop l (by omega) hx l.length 0 (1048576 - (l.length : Int)) (by omega) (by omega) (by omega)
 rw [List.drop_zero] at hr
 by_cases h2 : c < 0
 ·
  exact ⟨-1, Ev.bind (Ev.ifF h hc) (Ev.ifT h2 (Ev.now _)), .inl (by omega)⟩
 refine ⟨c, Ev.bind (Ev.ifF h hc) (Ev.ifF h2 (Ev.now _)), .inr ?_⟩
 rcases hr with hr | ⟨k1, k2⟩
 ·
  exact absurd hr h2
 exact ⟨k1, by omega, k2⟩
theorem fillP {α : Type} (z : α) (xs : List α) (n : Nat) (h : n < xs.length) (y : α) : (xs.take n ++ List.replicate (xs.length - n) y).set n (xs[n]) = xs.take (n + 1) ++ List.replicate (xs.length - (n + 1)) y := by
 have := fill_set (xs[n]) xs n h y
 rwa [getD_lt _ h] at this
theorem toIntA2S_loop (l : List Edg) (hl : l.length ≤ 1048576) : ∀ (d i : Nat), i + d = l.length → Ev (fun k => laws_toIntA2S.l0 k l (l.take i ++ List.replicate (l.length - i) z88) (i : Int)) l := by
 intro d
 induction d with
 | zero =>
  intro i hi
  refine Ev.step (fun k => laws_toIntA2S.l0.eq_2 ..) (Ev.ifF (by omega) ?_)
  rw [List.take_of_length_le (by omega), show l.length - i = 0 from by omega, List.replicate_zero, List.append_nil]
  exact Ev.now _
 | succ d ih =>
  intro i hi
  have hil : i < l.length := by omega
  refine Ev.step (fun k => laws_toIntA2S.l0.eq_2 ..) (Ev.ifT (by omega) (Ev.ifT (by omega) ?_))
  rw [rd_edge hil]
  unfold laws_toIntA2.f
  refine Ev.some_bind (Ev.ifT (by rw [List.length_append, List.length_take, List.length_replicate]; omega) ?_)
  rw [Int.toNat_natCast, show (⟨l[i].f0, l[i].f1⟩ : Edg) = l[i] from rfl, fillP z88 l i hil, wrap64_succ i (by omega)]
  exact ih (i + 1) (by omega)
theorem toIntA2S_ev (l : List Edg) (hl : l.length ≤ 1048576) : Ev (fun k => laws_toIntA2S.f k l) l := by
 unfold laws_toIntA2S.f
 refine Ev.ifT (by omega) (Ev.ifT (by omega) ?_)
 have := toIntA2S_loop l hl l.length 0 (by omega)
 rw [List.take_zero, List.nil_append, Nat.sub_zero] at this
 exact this
theorem toStateS_loop (l : List Lst) (hl : l.length ≤ 1048576) (hx : ∀ x ∈ l, x.f1.length ≤ 1048576) : ∀ (d i : Nat), i + d = l.length → Ev (fun k => laws_toStateS.l0 k l ((toM l).take i ++ List.replicate ((toM l).length - i) z72) (i : Int)) (toM l) := by
 intro d
 induction d with
 | zero =>
  intro i hi
  refine Ev.step (fun k => laws_toStateS.l0.eq_2 ..) (Ev.ifF (by omega) ?_)
  rw [List.take_of_length_le (by rw [toM_length]; omega), show (toM l).length - i = 0 from by rw [toM_length]; omega, List.replicate_zero, List.append_nil]
  exact Ev.now _
 | succ d ih =>
  intro i hi
  have hil : i < l.length := by omega
  have him : i < (toM l).length := by rw [toM_length]; exact hil
  refine Ev.step (fun k => laws_toStateS.l0.eq_2 ..) (Ev.ifT (by omega) (Ev.ifT (by omega) ?_))
  rw [rd_ls hil]
  unfold laws_toState.f
  refine Ev.bind (Ev.bind (toIntA2S_ev _ (hx _ (List.getElem_mem hil))) (Ev.now _)) (Ev.ifT (by rw [List.length_append, List.length_take, List.length_replicate]; omega) ?_)
  have e : (⟨l[i].f0, l[i].f1⟩ : Stt) = (toM l)[i] := (List.getElem_map (fun x : Lst => (⟨x.f0, x.f1⟩ : Stt)) (l := l) (h := him)).symm
  show Ev (fun k => laws_toStateS.l0 k l (((toM l).take i ++ List.replicate ((toM l).length - i) z72).set ((i : Int)).toNat (⟨l[i].f0, l[i].f1⟩ : Stt)) (wrap64 ((i : Int) + 1))) (toM l)
  rw [Int.toNat_natCast, e, fillP z72 (toM l) i him, wrap64_succ i (by omega)]
  exact ih (i + 1) (by omega)
theorem toMachine_ev (l : List Lst) (hl : l.length ≤ 1048576) (hx : ∀ x ∈ l, x.f1.length ≤ 1048576) : Ev (fun k => laws_toMachine.f k l) (toM l) := by
 unfold laws_toMachine.f laws_toStateS.f
 refine Ev.bind (Ev.ifT (by omega) (Ev.ifT (by omega) ?_)) (Ev.now _)
 have := toStateS_loop l hl hx l.length 0 (by omega)
 rw [List.take_zero, List.nil_append, Nat.sub_zero, toM_length] at this
 exact this
theorem toM_edges {l : List Lst} {n : Nat} (hx : ∀ x ∈ l, x.f1.length ≤ n) : ∀ x ∈ toM l, x.f1.length ≤ n := by
 intro x h
 obtain ⟨y, hy, rfl⟩ := List.mem_map.1 h
 exact hx y hy
end Mach
end Go.Proofs.YtnnkedeohfbkeaaGreatDoor.L
namespace Go.Proofs.YtnnkedeohfbkeaaGreatDoor.L
open Go.RowKit Go.Proofs.YtnnkedeohfbkeaaGreatDoor.P Go.Proofs.YtnnkedeohfbkeaaGreatDoor.M Go.Proofs.YtnnkedeohfbkeaaGreatDoorW.PrintWords Go.Proofs.YtnnkedeohfbkeaaGreatDoorW.PrintLast Go.Proofs.YtnnkedeohfbkeaaGreatDoorW.PrintMore
theorem eqA2_self (a b : Int) : laws_eqIntA2.f a b a b = some true := by unfold laws_eqIntA2.f; simp
abbrev Pr := S88
theorem eqIntA2S_loop (l : List Pr) (hl : l.length ≤ 1000000000) : ∀ (d n : Nat), n + d = l.length → Ev (fun k => laws_eqIntA2S.l0 k l l (n : Int)) true := by
 intro d
 induction d with
 | zero =>
  intro n hn
  exact Ev.step (fun k => laws_eqIntA2S.l0.eq_2 ..) (Ev.ifF (by omega) (Ev.now _))
 | succ d ih =>
  intro n hn
  refine Ev.step (fun k => laws_eqIntA2S.l0.eq_2 ..) (Ev.ifT (by omega) (Ev.ifT (by omega) (Ev.ifT (by omega) ?_)))
  rw [eqA2_self]
  refine Ev.some_bind (Ev.ifT rfl ?_)
  rw [wrap64_succ n (by omega)]
  exact ih (n + 1) (by omega)
theorem eqIntA2S_ev (l : List Pr) (hl : l.length ≤ 1000000000) : Ev (fun k => laws_eqIntA2S.f k l l) true := by
 unfold laws_eqIntA2S.f
 exact Ev.ifT rfl (eqIntA2S_loop l hl l.length 0 (by omega))
end Go.Proofs.YtnnkedeohfbkeaaGreatDoor.L
namespace Go.Proofs.YtnnkedeohfbkeaaGreatDoor.L
open Go.RowKit Go.Proofs.YtnnkedeohfbkeaaGreatDoor.P Go.Proofs.YtnnkedeohfbkeaaGreatDoor.M Go.Proofs.YtnnkedeohfbkeaaGreatDoorW.PrintWords Go.Proofs.YtnnkedeohfbkeaaGreatDoorW.PrintLast Go.Proofs.YtnnkedeohfbkeaaGreatDoorW.PrintMore
namespace MMk
abbrev St := S72
theorem rd_at (pre xs : List St) (x : St) : rd_T72 (pre ++ x :: xs) (pre.length : Int) = x := by
 unfold rd_T72
 rw [Int.toNat_natCast, List.getD_eq_getElem?_getD, List.getElem?_append_right (Nat.le_refl _), Nat.sub_self]
 rfl
theorem eqState_ev (x : St) (h : x.f1.length ≤ 1000000000) : Ev (fun k => laws_eqState.f k x.f0 x.f1 x.f0 x.f1) true := by
 unfold laws_eqState.f
 exact Ev.ifF (by simp) (Ev.bind (eqIntA2S_ev _ h) (Ev.ifT rfl (Ev.now _)))
theorem eqStateS_loop (l : List St) (hl : l.length ≤ 1000000000) : ∀ (xs pre : List St), pre ++ xs = l → (∀ x ∈ xs, x.f1.length ≤ 1000000000) → Ev (fun k => laws_eqStateS.l0 k l l (pre.length : Int)) true
 | [], pre, e, _ => by
  refine Ev.step (fun k => laws_eqStateS.l0.eq_2 ..) (Ev.ifF ?_ (Ev.now _))
  rw [← e, List.append_nil]; omega
 | x :: xs, pre, e, hx => by
  have hn : pre.length < l.length := by rw [← e, List.length_append, List.length_cons]; omega
  have er : rd_T72 l (pre.length : Int) = x := by rw [← e]; exact rd_at pre xs x
  refine Ev.step (fun k => laws_eqStateS.l0.eq_2 ..) (Ev.ifT (by omega) (Ev.ifT (by omega) (Ev.ifT (by omega) ?_)))
  rw [er, wrap64_succ pre.length (by omega)]
  have ih := eqStateS_loop l hl xs (pre ++ [x]) (by rw [List.append_assoc]; exact e) (fun y hy => hx y (List.mem_cons_of_mem _ hy))
  rw [List.length_append, List.length_singleton] at ih
  exact Ev.bind (eqState_ev x (hx x (List.mem_cons_self ..))) (Ev.ifT rfl ih)
theorem eqMachine_ev (l : List St) (hl : l.length ≤ 1000000000) (hx : ∀ x ∈ l, x.f1.length ≤ 1000000000) : Ev (fun k => laws_eqMachine.f k l l) true := by
 unfold laws_eqMachine.f laws_eqStateS.f
 exact Ev.bind (Ev.ifT rfl (eqStateS_loop l hl l [] rfl hx)) (Ev.ifT rfl (Ev.now _))
theorem aN_gen (a : Int) (h0 : 0 ≤ a) : ∀ i : Nat, a + 2 * (i : Int) ≤ 1000000000000000000 → laws_markIntA2S.aN a i = a + 2 * (i : Int)
 | 0, _ => by rw [laws_markIntA2S.aN]; omega
 | i + 1, h => by
  rw [laws_markIntA2S.aN, aN_gen a h0 i (by omega), wrap64_id (x := a + 2 * (i : Int) + 1) (by omega) (by omega), wrap64_id (by omega) (by omega)]
  omega
theorem mark_eq (a : Int) (l : List S88) (hl : l.length ≤ 1000000000) (h0 : 0 ≤ a) (h1 : a ≤ 100000000000000000) : laws_markIntA2S.f l a = some (a + 2 * (l.length : Int), laws_markIntA2S.mN l a l.length) := by
 unfold laws_markIntA2S.f
 rw [if_pos hl, aN_gen a h0 _ (by omega)]
def endK (k : Int) : List St → Int
 | [] => k
 | x :: xs => endK (k + 1 + 2 * (x.f1.length : Int)) xs
def marked (k : Int) : List St → List St
 | [] => []
 | x :: xs => ⟨Int.tmod k 3 == 0, laws_markIntA2S.mN x.f1 (k + 1) x.f1.length⟩ :: marked (k + 1 + 2 * (x.f1.length : Int)) xs
def okK (k : Int) : List St → Prop
 | [] => True
 | x :: xs => 0 ≤ k ∧ k ≤ 10000000000000000 ∧ x.f1.length ≤ 1000000000 ∧ okK (k + 1 + 2 * (x.f1.length : Int)) xs
theorem go_eq : ∀ (xs pre : List St) (k : Int), okK k xs → laws_markStateS.go xs.length pre.length k (pre ++ xs) = some (endK k xs, pre ++ marked k xs)
 | [], pre, k, _ => rfl
 | x :: xs, pre, k, h => by
  obtain ⟨h0, h1, h2, h3⟩ := h
  rw [List.length_cons, laws_markStateS.go, rd_at, wrap64_id (x := k + 1) (by omega) (by omega), mark_eq _ _ h2 (by omega) (by omega), Option.bind_some, List.set_append_right _ _ (Nat.le_refl _), Nat.sub_self, List.set_cons_zero]
  have ih := go_eq xs (pre ++ [⟨Int.tmod k 3 == 0, laws_markIntA2S.mN x.f1 (k + 1) x.f1.length⟩]) _ h3
  rw [List.length_append, List.length_singleton, List.append_assoc] at ih
  refine ih.trans ?_
  rw [List.append_assoc]
  rfl
theorem endK_pos : ∀ (xs : List St) (k : Int), 0 ≤ k → 0 ≤ endK k xs
 | [], _, h => h
 | x :: xs, k, h => endK_pos xs _ (by omega)
theorem okK_big : ∀ (xs : List St) (k : Int), 0 ≤ k → k + 2100000 * (xs.length : Int) ≤ 10000000000000000 → (∀ x ∈ xs, x.f1.length ≤ 1048576) → okK k xs
 | [], _, _, _, _ => trivial
 | x :: xs, k, h0, h1, hx => by
  have hl := hx x (List.mem_cons_self ..)
  rw [List.length_cons] at h1
  exact ⟨h0, by omega, by omega, okK_big xs _ (by omega) (by omega) (fun y hy => hx y (List.mem_cons_of_mem _ hy))⟩
theorem mark_big {l : List St} (hl : l.length ≤ 1048576) (hx : ∀ x ∈ l, x.f1.length ≤ 1048576) : laws_markMachine.f l 1 = some (endK 1 l, marked 1 l) ∧ 0 ≤ endK 1 l := by
 have hk := okK_big l 1 (by omega) (by omega) hx
 refine ⟨?_, endK_pos l 1 (by omega)⟩
 unfold laws_markMachine.f laws_markStateS.f
 rw [if_pos (by omega)]
 exact go_eq l [] 1 hk
end MMk
end Go.Proofs.YtnnkedeohfbkeaaGreatDoor.L
