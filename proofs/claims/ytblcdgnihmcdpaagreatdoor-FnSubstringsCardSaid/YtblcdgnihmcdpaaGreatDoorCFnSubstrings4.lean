/-
  Part 5 of the proof that FnSubstrings returns true for every input: the functions that it reaches, each with its contract, and the law.
  Conditions: those of the given statement, no others.
-/
import Derived.Test.YtblcdgnihmcdpaaGreatDoorCFnSubstringsW0
import Derived.Test.YtblcdgnihmcdpaaGreatDoorCFnSubstrings0
import Derived.Test.YtblcdgnihmcdpaaGreatDoorCFnSubstrings2
import Derived.Test.YtblcdgnihmcdpaaGreatDoorCFnSubstrings1
import Derived.Test.YtblcdgnihmcdpaaGreatDoorCFnSubstrings3
set_option linter.unusedVariables false
set_option linter.unusedSimpArgs false
set_option maxHeartbeats 8000000
set_option maxRecDepth 100000
namespace Go.Proofs.YtblcdgnihmcdpaaGreatDoor.P
open Go.RowKit Go.Proofs.YtblcdgnihmcdpaaGreatDoorW.PrintWords Go.Proofs.YtblcdgnihmcdpaaGreatDoorW.PrintLast Go.Proofs.YtblcdgnihmcdpaaGreatDoorW.PrintMore
attribute [local go_sem] max2_int min2_int max_two min_two max_three min_three max_four min_four
mutual
def wF29.j0 : Nat → List Int → ByteArray → List ByteArray → Bool → Bool → Option (Bool)
 | 0, _, _, _, _, _ => none
 | k + 1, x0, x3, x4, x5, x71 => if x71 = true then (some false) else ((iF9.f k x3).bind fun bt447 => ((sF38.f k x3).bind fun bt449 => (if bt447.1 = bt449.1 then (if (bt447.2 != bt449.2) = true then (wF29.j1 k x0 x3 x4 x5 bt447.1 true) else (if (bt447.2 != x5) = true then (wF29.j1 k x0 x3 x4 x5 bt447.1 true) else (if x5 = true then (wF29.j1 k x0 x3 x4 x5 bt447.1 (bt447.1 != (x4.length : Int))) else (wF29.j1 k x0 x3 x4 x5 bt447.1 false)))) else (wF29.j1 k x0 x3 x4 x5 bt447.1 true))))
def wF29.j1 : Nat → List Int → ByteArray → List ByteArray → Bool → Int → Bool → Option (Bool)
 | 0, _, _, _, _, _, _ => none
 | k + 1, x0, x3, x4, x5, x8, x103 => if x103 = true then (some false) else ((iF8.f k x3).bind fun bt451 => ((sF37.f k x3).bind fun bt455 => (if (bt451.2 != bt455.2) = true then (wF29.j2 k x0 x3 x4 x5 x8 bt451.1 true) else (if (bt451.2 != x5) = true then (wF29.j2 k x0 x3 x4 x5 x8 bt451.1 true) else ((wF31.f k bt451.1 bt455.1).bind fun t459 => (wF29.j2 k x0 x3 x4 x5 x8 bt451.1 (!t459)))))))
def wF29.j2 : Nat → List Int → ByteArray → List ByteArray → Bool → Int → List Int → Bool → Option (Bool)
 | 0, _, _, _, _, _, _, _ => none
 | k + 1, x0, x3, x4, x5, x8, x12, x127 => if x127 = true then (some false) else ((iF10.f x3).bind fun bt460 => ((sF42.f k x3).bind fun bt464 => (if (bt460.2 != bt464.2) = true then (wF29.j3 k x0 x3 x4 x5 x8 x12 bt460.1 true) else (if (bt460.2 != x5) = true then (wF29.j3 k x0 x3 x4 x5 x8 x12 bt460.1 true) else ((wF31.f k bt460.1 bt464.1).bind fun t468 => (wF29.j3 k x0 x3 x4 x5 x8 x12 bt460.1 (!t468)))))))
def wF29.j3 : Nat → List Int → ByteArray → List ByteArray → Bool → Int → List Int → List Int → Bool → Option (Bool)
 | 0, _, _, _, _, _, _, _, _ => none
 | k + 1, x0, x3, x4, x5, x8, x12, x16, x151 => if x151 = true then (some false) else ((iF7.f k x3).bind fun bt469 => ((sF36.f k x3).bind fun bt473 => (if (bt469.2 != bt473.2) = true then (wF29.j4 k x0 x3 x4 x5 x8 x12 x16 bt469.1 true) else (if (bt469.2 != x5) = true then (wF29.j4 k x0 x3 x4 x5 x8 x12 x16 bt469.1 true) else ((wF31.f k bt469.1 bt473.1).bind fun t477 => (wF29.j4 k x0 x3 x4 x5 x8 x12 x16 bt469.1 (!t477)))))))
def wF29.j4 : Nat → List Int → ByteArray → List ByteArray → Bool → Int → List Int → List Int → List Int → Bool → Option (Bool)
 | 0, _, _, _, _, _, _, _, _, _ => none
 | k + 1, x0, x3, x4, x5, x8, x12, x16, x20, x175 => if x175 = true then (some false) else ((sF40.f k x0).bind fun bt478 => ((iF12.f k bt478.1 bt478.2).bind fun bt480 => ((sF43.f k bt478.1 bt478.2).bind fun bt484 => (if (bt480.2 != bt484.2) = true then (wF29.j5 k x3 x4 x5 x8 x12 x16 x20 bt478.1 bt478.2 bt480.1 true) else ((wF31.f k bt480.1 bt484.1).bind fun t488 => (wF29.j5 k x3 x4 x5 x8 x12 x16 x20 bt478.1 bt478.2 bt480.1 (!t488)))))))
def wF29.j5 : Nat → ByteArray → List ByteArray → Bool → Int → List Int → List Int → List Int → ByteArray → ByteArray → List Int → Bool → Option (Bool)
 | 0, _, _, _, _, _, _, _, _, _, _, _ => none
 | k + 1, x3, x4, x5, x8, x12, x16, x20, x24, x25, x26, x201 => if x201 = true then (some false) else ((iF13.f k x3).bind fun bt489 => ((sF44.f k x3).bind fun bt494 => (if (bt489.2 != bt494.2) = true then (wF29.j6 k x3 x4 x5 x8 x12 x16 x20 x24 x25 x26 bt489.2 true bt489.1) else ((wF33.f k bt489.1 bt494.1).bind fun t499 => (wF29.j6 k x3 x4 x5 x8 x12 x16 x20 x24 x25 x26 bt489.2 (!t499) bt489.1)))))
def wF29.j6 : Nat → ByteArray → List ByteArray → Bool → Int → List Int → List Int → List Int → ByteArray → ByteArray → List Int → Bool → Bool → List (S46) → Option (Bool)
 | 0, _, _, _, _, _, _, _, _, _, _, _, _, _ => none
 | k + 1, x3, x4, x5, x8, x12, x16, x20, x24, x25, x26, x31, x220, x494000 => if x220 = true then (some false) else (if x31 = true then (if (x494000.length : Int) = (wrap64 (x8 + 1)) then (wF29.l0 k x3 x4 x5 x8 x12 x16 x20 x24 x25 x26 0 x494000) else (some false)) else (wF29.j8 k x3 x4 x5 x8 x12 x16 x20 x24 x25 x26))
def wF29.j8 : Nat → ByteArray → List ByteArray → Bool → Int → List Int → List Int → List Int → ByteArray → ByteArray → List Int → Option (Bool)
 | 0, _, _, _, _, _, _, _, _, _, _ => none
 | k + 1, x3, x4, x5, x8, x12, x16, x20, x24, x25, x26 => wF29.l1 k x3 x4 x5 x8 x12 x16 x20 x24 x25 x26 0
def wF29.l1 : Nat → ByteArray → List ByteArray → Bool → Int → List Int → List Int → List Int → ByteArray → ByteArray → List Int → Int → Option (Bool)
 | 0, _, _, _, _, _, _, _, _, _, _, _ => none
 | k + 1, x3, x4, x5, x8, x12, x16, x20, x24, x25, x26, x35 => if x35 < (x26.length : Int) then (if 0 ≤ x35 then (if 0 ≤ (rd x26 x35) then (if (rd x26 x35) ≤ (wrap64 ((rd x26 x35) + (x25.size : Int))) then (if (wrap64 ((rd x26 x35) + (x25.size : Int))) ≤ (x24.size : Int) then (if (x24.extract ((rd x26 x35) : Int).toNat ((wrap64 ((rd x26 x35) + (x25.size : Int))) : Int).toNat).toList = x25.toList then (wF29.l1 k x3 x4 x5 x8 x12 x16 x20 x24 x25 x26 (wrap64 (x35 + 1))) else (some false)) else (none)) else (none)) else (none)) else (none)) else (if x5 = true then (wF29.l2 k x3 x4 x8 x12 x16 x20 0 0 0) else (some true))
def wF29.l2 : Nat → ByteArray → List ByteArray → Int → List Int → List Int → List Int → Int → Int → Int → Option (Bool)
 | 0, _, _, _, _, _, _, _, _, _ => none
 | k + 1, x3, x4, x8, x12, x16, x20, x36, x37, x38 => if x38 < (x20.length : Int) then (if 0 ≤ x38 then (wF29.l2 k x3 x4 x8 x12 x16 x20 (wrap64 (x36 + (rd x20 x38))) x37 (wrap64 (x38 + 1))) else (none)) else (wF29.l3 k x3 x4 x8 x12 x16 x36 x37 1)
def wF29.l3 : Nat → ByteArray → List ByteArray → Int → List Int → List Int → Int → Int → Int → Option (Bool)
 | 0, _, _, _, _, _, _, _, _ => none
 | k + 1, x3, x4, x8, x12, x16, x36, x37, x39 => if x39 < (x12.length : Int) then (if 0 ≤ x39 then (wF29.l3 k x3 x4 x8 x12 x16 x36 (wrap64 (x37 + (rd x12 x39))) (wrap64 (x39 + 1))) else (none)) else (if x8 = (wrap64 ((wrap64 (Int.tdiv (wrap64 ((x3.size : Int) * (wrap64 ((x3.size : Int) + 1)))) 2)) - x36)) then (if x37 = x8 then (if 0 < (x12.length : Int) then (if (rd x12 0) = 1 then (wF29.j12 k x3 x4 ((x16.length : Int) != (x3.size : Int))) else (wF29.j12 k x3 x4 true)) else (none)) else (wF29.j12 k x3 x4 true)) else (wF29.j12 k x3 x4 true))
def wF29.j12 : Nat → ByteArray → List ByteArray → Bool → Option (Bool)
 | 0, _, _, _ => none
 | k + 1, x3, x4, x317 => if x317 = true then (some false) else (wF29.l4 k x3 x4 0)
def wF29.l4 : Nat → ByteArray → List ByteArray → Int → Option (Bool)
 | 0, _, _, _ => none
 | k + 1, x3, x4, x40 => if x40 < (x4.length : Int) then (if 0 ≤ x40 then ((iF12.f k x3 (rdOf ByteArray.empty x4 x40)).bind fun bt507 => (if bt507.2 = true then (if (bt507.1.length : Int) = 0 then (some false) else (wF29.l4 k x3 x4 (wrap64 (x40 + 1)))) else (some false))) else (none)) else (some true)
def wF29.l0 : Nat → ByteArray → List ByteArray → Bool → Int → List Int → List Int → List Int → ByteArray → ByteArray → List Int → Int → List (S46) → Option (Bool)
 | 0, _, _, _, _, _, _, _, _, _, _, _, _ => none
 | k + 1, x3, x4, x5, x8, x12, x16, x20, x24, x25, x26, x34, x494000 => if x34 < (x494000.length : Int) then (if 0 ≤ x34 then (if ((rd_T46 x494000 x34).f2 = true) then (wF29.l0 k x3 x4 x5 x8 x12 x16 x20 x24 x25 x26 (wrap64 (x34 + 1)) x494000) else (some false)) else (none)) else (wF29.j8 k x3 x4 x5 x8 x12 x16 x20 x24 x25 x26)
end
def wF29.f (k : Nat) (l0 : List Int) : Option (Bool) := (wF30.f l0).bind fun t435 => (if t435 = true then (some true) else ((sF41.f k l0).bind fun t436 => ((iF14.f k t436).bind fun bt437 => ((sF45.f k t436).bind fun bt441 => (if (bt437.2 != bt441.2) = true then (wF29.j0 k l0 t436 bt437.1 bt437.2 true) else ((iF11.f t436).bind fun t445 => (if (bt437.2 != t445) = true then (wF29.j0 k l0 t436 bt437.1 bt437.2 true) else ((wF32.f k bt437.1 bt441.1).bind fun t446 => (wF29.j0 k l0 t436 bt437.1 bt437.2 (!t446))))))))))
theorem wF29.mono_l : ∀ k, (∀ y0 y1 y2 y3 y4, LeO (wF29.j0 k y0 y1 y2 y3 y4) (wF29.j0 (k + 1) y0 y1 y2 y3 y4)) ∧ (∀ y0 y1 y2 y3 y4 y5, LeO (wF29.j1 k y0 y1 y2 y3 y4 y5) (wF29.j1 (k + 1) y0 y1 y2 y3 y4 y5)) ∧ (∀ y0 y1 y2 y3 y4 y5 y6, LeO (wF29.j2 k y0 y1 y2 y3 y4 y5 y6) (wF29.j2 (k + 1) y0 y1 y2 y3 y4 y5 y6)) ∧ (∀ y0 y1 y2 y3 y4 y5 y6 y7, LeO (wF29.j3 k y0 y1 y2 y3 y4 y5 y6 y7) (wF29.j3 (k + 1) y0 y1 y2 y3 y4 y5 y6 y7)) ∧ (∀ y0 y1 y2 y3 y4 y5 y6 y7 y8, LeO (wF29.j4 k y0 y1 y2 y3 y4 y5 y6 y7 y8) (wF29.j4 (k + 1) y0 y1 y2 y3 y4 y5 y6 y7 y8)) ∧ (∀ y0 y1 y2 y3 y4 y5 y6 y7 y8 y9 y10, LeO (wF29.j5 k y0 y1 y2 y3 y4 y5 y6 y7 y8 y9 y10) (wF29.j5 (k + 1) y0 y1 y2 y3 y4 y5 y6 y7 y8 y9 y10)) ∧ (∀ y0 y1 y2 y3 y4 y5 y6 y7 y8 y9 y10 y11 y12, LeO (wF29.j6 k y0 y1 y2 y3 y4 y5 y6 y7 y8 y9 y10 y11 y12) (wF29.j6 (k + 1) y0 y1 y2 y3 y4 y5 y6 y7 y8 y9 y10 y11 y12)) ∧ (∀ y0 y1 y2 y3 y4 y5 y6 y7 y8 y9, LeO (wF29.j8 k y0 y1 y2 y3 y4 y5 y6 y7 y8 y9) (wF29.j8 (k + 1) y0 y1 y2 y3 y4 y5 y6 y7 y8 y9)) ∧ (∀ y0 y1 y2 y3 y4 y5 y6 y7 y8 y9 y10, LeO (wF29.l1 k y0 y1 y2 y3 y4 y5 y6 y7 y8 y9 y10) (wF29.l1 (k + 1) y0 y1 y2 y3 y4 y5 y6 y7 y8 y9 y10)) ∧ (∀ y0 y1 y2 y3 y4 y5 y6 y7 y8, LeO (wF29.l2 k y0 y1 y2 y3 y4 y5 y6 y7 y8) (wF29.l2 (k + 1) y0 y1 y2 y3 y4 y5 y6 y7 y8)) ∧ (∀ y0 y1 y2 y3 y4 y5 y6 y7, LeO (wF29.l3 k y0 y1 y2 y3 y4 y5 y6 y7) (wF29.l3 (k + 1) y0 y1 y2 y3 y4 y5 y6 y7)) ∧ (∀ y0 y1 y2, LeO (wF29.j12 k y0 y1 y2) (wF29.j12 (k + 1) y0 y1 y2)) ∧ (∀ y0 y1 y2, LeO (wF29.l4 k y0 y1 y2) (wF29.l4 (k + 1) y0 y1 y2)) ∧ (∀ y0 y1 y2 y3 y4 y5 y6 y7 y8 y9 y10 y11, LeO (wF29.l0 k y0 y1 y2 y3 y4 y5 y6 y7 y8 y9 y10 y11) (wF29.l0 (k + 1) y0 y1 y2 y3 y4 y5 y6 y7 y8 y9 y10 y11))
 | 0 => ⟨fun _ _ _ _ _ r h => by simp [wF29.j0] at h, fun _ _ _ _ _ _ r h => by simp [wF29.j1] at h, fun _ _ _ _ _ _ _ r h => by simp [wF29.j2] at h, fun _ _ _ _ _ _ _ _ r h => by simp [wF29.j3] at h, fun _ _ _ _ _ _ _ _ _ r h => by simp [wF29.j4] at h, fun _ _ _ _ _ _ _ _ _ _ _ r h => by simp [wF29.j5] at h, fun _ _ _ _ _ _ _ _ _ _ _ _ _ r h => by simp [wF29.j6] at h, fun _ _ _ _ _ _ _ _ _ _ r h => by simp [wF29.j8] at h, fun _ _ _ _ _ _ _ _ _ _ _ r h => by simp [wF29.l1] at h, fun _ _ _ _ _ _ _ _ _ r h => by simp [wF29.l2] at h, fun _ _ _ _ _ _ _ _ r h => by simp [wF29.l3] at h, fun _ _ _ r h => by simp [wF29.j12] at h, fun _ _ _ r h => by simp [wF29.l4] at h, fun _ _ _ _ _ _ _ _ _ _ _ _ r h => by simp [wF29.l0] at h⟩
 | k + 1 => by
  obtain ⟨ih0, ih1, ih2, ih3, ih4, ih5, ih6, ih7, ih8, ih9, ih10, ih11, ih12, ih13⟩ := wF29.mono_l k
  refine ⟨?_, ?_, ?_, ?_, ?_, ?_, ?_, ?_, ?_, ?_, ?_, ?_, ?_, ?_⟩
  ·
   intro y0 y1 y2 y3 y4
   unfold wF29.j0
   repeat' with_reducible first | exact ih0 _ _ _ _ _ | exact ih1 _ _ _ _ _ _ | exact ih2 _ _ _ _ _ _ _ | exact ih3 _ _ _ _ _ _ _ _ | exact ih4 _ _ _ _ _ _ _ _ _ | exact ih5 _ _ _ _ _ _ _ _ _ _ _ | exact ih6 _ _ _ _ _ _ _ _ _ _ _ _ _ | exact ih7 _ _ _ _ _ _ _ _ _ _ | exact ih8 _ _ _ _ _ _ _ _ _ _ _ | exact ih9 _ _ _ _ _ _ _ _ _ | exact ih10 _ _ _ _ _ _ _ _ | exact ih11 _ _ _ | exact ih12 _ _ _ | exact ih13 _ _ _ _ _ _ _ _ _ _ _ _ | exact iF7.mono _ _ | exact iF8.mono _ _ | exact iF9.mono _ _ | exact iF12.mono _ _ _ | exact iF13.mono _ _ | exact iF14.mono _ _ | exact wF31.mono _ _ _ | exact wF32.mono _ _ _ | exact wF33.mono _ _ _ | exact sF36.mono _ _ | exact sF37.mono _ _ | exact sF38.mono _ _ | exact sF40.mono _ _ | exact sF41.mono _ _ | exact sF42.mono _ _ | exact sF43.mono _ _ _ | exact sF44.mono _ _ | exact sF45.mono _ _ | exact LeO.refl _ | exact LeO.none _ | refine LeO.ite ?_ ?_ | refine LeO.bind ?_ (fun _ => ?_)
  ·
   intro y0 y1 y2 y3 y4 y5
   unfold wF29.j1
   repeat' with_reducible first | exact ih0 _ _ _ _ _ | exact ih1 _ _ _ _ _ _ | exact ih2 _ _ _ _ _ _ _ | exact ih3 _ _ _ _ _ _ _ _ | exact ih4 _ _ _ _ _ _ _ _ _ | exact ih5 _ _ _ _ _ _ _ _ _ _ _ | exact ih6 _ _ _ _ _ _ _ _ _ _ _ _ _ | exact ih7 _ _ _ _ _ _ _ _ _ _ | exact ih8 _ _ _ _ _ _ _ _ _ _ _ | exact ih9 _ _ _ _ _ _ _ _ _ | exact ih10 _ _ _ _ _ _ _ _ | exact ih11 _ _ _ | exact ih12 _ _ _ | exact ih13 _ _ _ _ _ _ _ _ _ _ _ _ | exact iF7.mono _ _ | exact iF8.mono _ _ | exact iF9.mono _ _ | exact iF12.mono _ _ _ | exact iF13.mono _ _ | exact iF14.mono _ _ | exact wF31.mono _ _ _ | exact wF32.mono _ _ _ | exact wF33.mono _ _ _ | exact sF36.mono _ _ | exact sF37.mono _ _ | exact sF38.mono _ _ | exact sF40.mono _ _ | exact sF41.mono _ _ | exact sF42.mono _ _ | exact sF43.mono _ _ _ | exact sF44.mono _ _ | exact sF45.mono _ _ | exact LeO.refl _ | exact LeO.none _ | refine LeO.ite ?_ ?_ | refine LeO.bind ?_ (fun _ => ?_)
  ·
   intro y0 y1 y2 y3 y4 y5 y6
   unfold wF29.j2
   repeat' with_reducible first | exact ih0 _ _ _ _ _ | exact ih1 _ _ _ _ _ _ | exact ih2 _ _ _ _ _ _ _ | exact ih3 _ _ _ _ _ _ _ _ | exact ih4 _ _ _ _ _ _ _ _ _ | exact ih5 _ _ _ _ _ _ _ _ _ _ _ | exact ih6 _ _ _ _ _ _ _ _ _ _ _ _ _ | exact ih7 _ _ _ _ _ _ _ _ _ _ | exact ih8 _ _ _ _ _ _ _ _ _ _ _ | exact ih9 _ _ _ _ _ _ _ _ _ | exact ih10 _ _ _ _ _ _ _ _ | exact ih11 _ _ _ | exact ih12 _ _ _ | exact ih13 _ _ _ _ _ _ _ _ _ _ _ _ | exact iF7.mono _ _ | exact iF8.mono _ _ | exact iF9.mono _ _ | exact iF12.mono _ _ _ | exact iF13.mono _ _ | exact iF14.mono _ _ | exact wF31.mono _ _ _ | exact wF32.mono _ _ _ | exact wF33.mono _ _ _ | exact sF36.mono _ _ | exact sF37.mono _ _ | exact sF38.mono _ _ | exact sF40.mono _ _ | exact sF41.mono _ _ | exact sF42.mono _ _ | exact sF43.mono _ _ _ | exact sF44.mono _ _ | exact sF45.mono _ _ | exact LeO.refl _ | exact LeO.none _ | refine LeO.ite ?_ ?_ | refine LeO.bind ?_ (fun _ => ?_)
  ·
   intro y0 y1 y2 y3 y4 y5 y6 y7
   unfold wF29.j3
   repeat' with_reducible first | exact ih0 _ _ _ _ _ | exact ih1 _ _ _ _ _ _ | exact ih2 _ _ _ _ _ _ _ | exact ih3 _ _ _ _ _ _ _ _ | exact ih4 _ _ _ _ _ _ _ _ _ | exact ih5 _ _ _ _ _ _ _ _ _ _ _ | exact ih6 _ _ _ _ _ _ _ _ _ _ _ _ _ | exact ih7 _ _ _ _ _ _ _ _ _ _ | exact ih8 _ _ _ _ _ _ _ _ _ _ _ | exact ih9 _ _ _ _ _ _ _ _ _ | exact ih10 _ _ _ _ _ _ _ _ | exact ih11 _ _ _ | exact ih12 _ _ _ | exact ih13 _ _ _ _ _ _ _ _ _ _ _ _ | exact iF7.mono _ _ | exact iF8.mono _ _ | exact iF9.mono _ _ | exact iF12.mono _ _ _ | exact iF13.mono _ _ | exact iF14.mono _ _ | exact wF31.mono _ _ _ | exact wF32.mono _ _ _ | exact wF33.mono _ _ _ | exact sF36.mono _ _ | exact sF37.mono _ _ | exact sF38.mono _ _ | exact sF40.mono _ _ | exact sF41.mono _ _ | exact sF42.mono _ _ | exact sF43.mono _ _ _ | exact sF44.mono _ _ | exact sF45.mono _ _ | exact LeO.refl _ | exact LeO.none _ | refine LeO.ite ?_ ?_ | refine LeO.bind ?_ (fun _ => ?_)
  ·
   intro y0 y1 y2 y3 y4 y5 y6 y7 y8
   unfold wF29.j4
   repeat' with_reducible first | exact ih0 _ _ _ _ _ | exact ih1 _ _ _ _ _ _ | exact ih2 _ _ _ _ _ _ _ | exact ih3 _ _ _ _ _ _ _ _ | exact ih4 _ _ _ _ _ _ _ _ _ | exact ih5 _ _ _ _ _ _ _ _ _ _ _ | exact ih6 _ _ _ _ _ _ _ _ _ _ _ _ _ | exact ih7 _ _ _ _ _ _ _ _ _ _ | exact ih8 _ _ _ _ _ _ _ _ _ _ _ | exact ih9 _ _ _ _ _ _ _ _ _ | exact ih10 _ _ _ _ _ _ _ _ | exact ih11 _ _ _ | exact ih12 _ _ _ | exact ih13 _ _ _ _ _ _ _ _ _ _ _ _ | exact iF7.mono _ _ | exact iF8.mono _ _ | exact iF9.mono _ _ | exact iF12.mono _ _ _ | exact iF13.mono _ _ | exact iF14.mono _ _ | exact wF31.mono _ _ _ | exact wF32.mono _ _ _ | exact wF33.mono _ _ _ | exact sF36.mono _ _ | exact sF37.mono _ _ | exact sF38.mono _ _ | exact sF40.mono _ _ | exact sF41.mono _ _ | exact sF42.mono _ _ | exact sF43.mono _ _ _ | exact sF44.mono _ _ | exact sF45.mono _ _ | exact LeO.refl _ | exact LeO.none _ | refine LeO.ite ?_ ?_ | refine LeO.bind ?_ (fun _ => ?_)
  ·
   intro y0 y1 y2 y3 y4 y5 y6 y7 y8 y9 y10
   unfold wF29.j5
   repeat' with_reducible first | exact ih0 _ _ _ _ _ | exact ih1 _ _ _ _ _ _ | exact ih2 _ _ _ _ _ _ _ | exact ih3 _ _ _ _ _ _ _ _ | exact ih4 _ _ _ _ _ _ _ _ _ | exact ih5 _ _ _ _ _ _ _ _ _ _ _ | exact ih6 _ _ _ _ _ _ _ _ _ _ _ _ _ | exact ih7 _ _ _ _ _ _ _ _ _ _ | exact ih8 _ _ _ _ _ _ _ _ _ _ _ | exact ih9 _ _ _ _ _ _ _ _ _ | exact ih10 _ _ _ _ _ _ _ _ | exact ih11 _ _ _ | exact ih12 _ _ _ | exact ih13 _ _ _ _ _ _ _ _ _ _ _ _ | exact iF7.mono _ _ | exact iF8.mono _ _ | exact iF9.mono _ _ | exact iF12.mono _ _ _ | exact iF13.mono _ _ | exact iF14.mono _ _ | exact wF31.mono _ _ _ | exact wF32.mono _ _ _ | exact wF33.mono _ _ _ | exact sF36.mono _ _ | exact sF37.mono _ _ | exact sF38.mono _ _ | exact sF40.mono _ _ | exact sF41.mono _ _ | exact sF42.mono _ _ | exact sF43.mono _ _ _ | exact sF44.mono _ _ | exact sF45.mono _ _ | exact LeO.refl _ | exact LeO.none _ | refine LeO.ite ?_ ?_ | refine LeO.bind ?_ (fun _ => ?_)
  ·
   intro y0 y1 y2 y3 y4 y5 y6 y7 y8 y9 y10 y11 y12
   unfold wF29.j6
   repeat' with_reducible first | exact ih0 _ _ _ _ _ | exact ih1 _ _ _ _ _ _ | exact ih2 _ _ _ _ _ _ _ | exact ih3 _ _ _ _ _ _ _ _ | exact ih4 _ _ _ _ _ _ _ _ _ | exact ih5 _ _ _ _ _ _ _ _ _ _ _ | exact ih6 _ _ _ _ _ _ _ _ _ _ _ _ _ | exact ih7 _ _ _ _ _ _ _ _ _ _ | exact ih8 _ _ _ _ _ _ _ _ _ _ _ | exact ih9 _ _ _ _ _ _ _ _ _ | exact ih10 _ _ _ _ _ _ _ _ | exact ih11 _ _ _ | exact ih12 _ _ _ | exact ih13 _ _ _ _ _ _ _ _ _ _ _ _ | exact iF7.mono _ _ | exact iF8.mono _ _ | exact iF9.mono _ _ | exact iF12.mono _ _ _ | exact iF13.mono _ _ | exact iF14.mono _ _ | exact wF31.mono _ _ _ | exact wF32.mono _ _ _ | exact wF33.mono _ _ _ | exact sF36.mono _ _ | exact sF37.mono _ _ | exact sF38.mono _ _ | exact sF40.mono _ _ | exact sF41.mono _ _ | exact sF42.mono _ _ | exact sF43.mono _ _ _ | exact sF44.mono _ _ | exact sF45.mono _ _ | exact LeO.refl _ | exact LeO.none _ | refine LeO.ite ?_ ?_ | refine LeO.bind ?_ (fun _ => ?_)
  ·
   intro y0 y1 y2 y3 y4 y5 y6 y7 y8 y9
   unfold wF29.j8
   repeat' with_reducible first | exact ih0 _ _ _ _ _ | exact ih1 _ _ _ _ _ _ | exact ih2 _ _ _ _ _ _ _ | exact ih3 _ _ _ _ _ _ _ _ | exact ih4 _ _ _ _ _ _ _ _ _ | exact ih5 _ _ _ _ _ _ _ _ _ _ _ | exact ih6 _ _ _ _ _ _ _ _ _ _ _ _ _ | exact ih7 _ _ _ _ _ _ _ _ _ _ | exact ih8 _ _ _ _ _ _ _ _ _ _ _ | exact ih9 _ _ _ _ _ _ _ _ _ | exact ih10 _ _ _ _ _ _ _ _ | exact ih11 _ _ _ | exact ih12 _ _ _ | exact ih13 _ _ _ _ _ _ _ _ _ _ _ _ | exact iF7.mono _ _ | exact iF8.mono _ _ | exact iF9.mono _ _ | exact iF12.mono _ _ _ | exact iF13.mono _ _ | exact iF14.mono _ _ | exact wF31.mono _ _ _ | exact wF32.mono _ _ _ | exact wF33.mono _ _ _ | exact sF36.mono _ _ | exact sF37.mono _ _ | exact sF38.mono _ _ | exact sF40.mono _ _ | exact sF41.mono _ _ | exact sF42.mono _ _ | exact sF43.mono _ _ _ | exact sF44.mono _ _ | exact sF45.mono _ _ | exact LeO.refl _ | exact LeO.none _ | refine LeO.ite ?_ ?_ | refine LeO.bind ?_ (fun _ => ?_)
  ·
   intro y0 y1 y2 y3 y4 y5 y6 y7 y8 y9 y10
   unfold wF29.l1
   repeat' with_reducible first | exact ih0 _ _ _ _ _ | exact ih1 _ _ _ _ _ _ | exact ih2 _ _ _ _ _ _ _ | exact ih3 _ _ _ _ _ _ _ _ | exact ih4 _ _ _ _ _ _ _ _ _ | exact ih5 _ _ _ _ _ _ _ _ _ _ _ | exact ih6 _ _ _ _ _ _ _ _ _ _ _ _ _ | exact ih7 _ _ _ _ _ _ _ _ _ _ | exact ih8 _ _ _ _ _ _ _ _ _ _ _ | exact ih9 _ _ _ _ _ _ _ _ _ | exact ih10 _ _ _ _ _ _ _ _ | exact ih11 _ _ _ | exact ih12 _ _ _ | exact ih13 _ _ _ _ _ _ _ _ _ _ _ _ | exact iF7.mono _ _ | exact iF8.mono _ _ | exact iF9.mono _ _ | exact iF12.mono _ _ _ | exact iF13.mono _ _ | exact iF14.mono _ _ | exact wF31.mono _ _ _ | exact wF32.mono _ _ _ | exact wF33.mono _ _ _ | exact sF36.mono _ _ | exact sF37.mono _ _ | exact sF38.mono _ _ | exact sF40.mono _ _ | exact sF41.mono _ _ | exact sF42.mono _ _ | exact sF43.mono _ _ _ | exact sF44.mono _ _ | exact sF45.mono _ _ | exact LeO.refl _ | exact LeO.none _ | refine LeO.ite ?_ ?_ | refine LeO.bind ?_ (fun _ => ?_)
  ·
   intro y0 y1 y2 y3 y4 y5 y6 y7 y8
   unfold wF29.l2
   repeat' with_reducible first | exact ih0 _ _ _ _ _ | exact ih1 _ _ _ _ _ _ | exact ih2 _ _ _ _ _ _ _ | exact ih3 _ _ _ _ _ _ _ _ | exact ih4 _ _ _ _ _ _ _ _ _ | exact ih5 _ _ _ _ _ _ _ _ _ _ _ | exact ih6 _ _ _ _ _ _ _ _ _ _ _ _ _ | exact ih7 _ _ _ _ _ _ _ _ _ _ | exact ih8 _ _ _ _ _ _ _ _ _ _ _ | exact ih9 _ _ _ _ _ _ _ _ _ | exact ih10 _ _ _ _ _ _ _ _ | exact ih11 _ _ _ | exact ih12 _ _ _ | exact ih13 _ _ _ _ _ _ _ _ _ _ _ _ | exact iF7.mono _ _ | exact iF8.mono _ _ | exact iF9.mono _ _ | exact iF12.mono _ _ _ | exact iF13.mono _ _ | exact iF14.mono _ _ | exact wF31.mono _ _ _ | exact wF32.mono _ _ _ | exact wF33.mono _ _ _ | exact sF36.mono _ _ | exact sF37.mono _ _ | exact sF38.mono _ _ | exact sF40.mono _ _ | exact sF41.mono _ _ | exact sF42.mono _ _ | exact sF43.mono _ _ _ | exact sF44.mono _ _ | exact sF45.mono _ _ | exact LeO.refl _ | exact LeO.none _ | refine LeO.ite ?_ ?_ | refine LeO.bind ?_ (fun _ => ?_)
  ·
   intro y0 y1 y2 y3 y4 y5 y6 y7
   unfold wF29.l3
   repeat' with_reducible first | exact ih0 _ _ _ _ _ | exact ih1 _ _ _ _ _ _ | exact ih2 _ _ _ _ _ _ _ | exact ih3 _ _ _ _ _ _ _ _ | exact ih4 _ _ _ _ _ _ _ _ _ | exact ih5 _ _ _ _ _ _ _ _ _ _ _ | exact ih6 _ _ _ _ _ _ _ _ _ _ _ _ _ | exact ih7 _ _ _ _ _ _ _ _ _ _ | exact ih8 _ _ _ _ _ _ _ _ _ _ _ | exact ih9 _ _ _ _ _ _ _ _ _ | exact ih10 _ _ _ _ _ _ _ _ | exact ih11 _ _ _ | exact ih12 _ _ _ | exact ih13 _ _ _ _ _ _ _ _ _ _ _ _ | exact iF7.mono _ _ | exact iF8.mono _ _ | exact iF9.mono _ _ | exact iF12.mono _ _ _ | exact iF13.mono _ _ | exact iF14.mono _ _ | exact wF31.mono _ _ _ | exact wF32.mono _ _ _ | exact wF33.mono _ _ _ | exact sF36.mono _ _ | exact sF37.mono _ _ | exact sF38.mono _ _ | exact sF40.mono _ _ | exact sF41.mono _ _ | exact sF42.mono _ _ | exact sF43.mono _ _ _ | exact sF44.mono _ _ | exact sF45.mono _ _ | exact LeO.refl _ | exact LeO.none _ | refine LeO.ite ?_ ?_ | refine LeO.bind ?_ (fun _ => ?_)
  ·
   intro y0 y1 y2
   unfold wF29.j12
   repeat' with_reducible first | exact ih0 _ _ _ _ _ | exact ih1 _ _ _ _ _ _ | exact ih2 _ _ _ _ _ _ _ | exact ih3 _ _ _ _ _ _ _ _ | exact ih4 _ _ _ _ _ _ _ _ _ | exact ih5 _ _ _ _ _ _ _ _ _ _ _ | exact ih6 _ _ _ _ _ _ _ _ _ _ _ _ _ | exact ih7 _ _ _ _ _ _ _ _ _ _ | exact ih8 _ _ _ _ _ _ _ _ _ _ _ | exact ih9 _ _ _ _ _ _ _ _ _ | exact ih10 _ _ _ _ _ _ _ _ | exact ih11 _ _ _ | exact ih12 _ _ _ | exact ih13 _ _ _ _ _ _ _ _ _ _ _ _ | exact iF7.mono _ _ | exact iF8.mono _ _ | exact iF9.mono _ _ | exact iF12.mono _ _ _ | exact iF13.mono _ _ | exact iF14.mono _ _ | exact wF31.mono _ _ _ | exact wF32.mono _ _ _ | exact wF33.mono _ _ _ | exact sF36.mono _ _ | exact sF37.mono _ _ | exact sF38.mono _ _ | exact sF40.mono _ _ | exact sF41.mono _ _ | exact sF42.mono _ _ | exact sF43.mono _ _ _ | exact sF44.mono _ _ | exact sF45.mono _ _ | exact LeO.refl _ | exact LeO.none _ | refine LeO.ite ?_ ?_ | refine LeO.bind ?_ (fun _ => ?_)
  ·
   intro y0 y1 y2
   unfold wF29.l4
   repeat' with_reducible first | exact ih0 _ _ _ _ _ | exact ih1 _ _ _ _ _ _ | exact ih2 _ _ _ _ _ _ _ | exact ih3 _ _ _ _ _ _ _ _ | exact ih4 _ _ _ _ _ _ _ _ _ | exact ih5 _ _ _ _ _ _ _ _ _ _ _ | exact ih6 _ _ _ _ _ _ _ _ _ _ _ _ _ | exact ih7 _ _ _ _ _ _ _ _ _ _ | exact ih8 _ _ _ _ _ _ _ _ _ _ _ | exact ih9 _ _ _ _ _ _ _ _ _ | exact ih10 _ _ _ _ _ _ _ _ | exact ih11 _ _ _ | exact ih12 _ _ _ | exact ih13 _ _ _ _ _ _ _ _ _ _ _ _ | exact iF7.mono _ _ | exact iF8.mono _ _ | exact iF9.mono _ _ | exact iF12.mono _ _ _ | exact iF13.mono _ _ | exact iF14.mono _ _ | exact wF31.mono _ _ _ | exact wF32.mono _ _ _ | exact wF33.mono _ _ _ | exact sF36.mono _ _ | exact sF37.mono _ _ | exact sF38.mono _ _ | exact sF40.mono _ _ | exact sF41.mono _ _ | exact sF42.mono _ _ | exact sF43.mono _ _ _ | exact sF44.mono _ _ | exact sF45.mono _ _ | exact LeO.refl _ | exact LeO.none _ | refine LeO.ite ?_ ?_ | refine LeO.bind ?_ (fun _ => ?_)
  intro y0 y1 y2 y3 y4 y5 y6 y7 y8 y9 y10 y11
  unfold wF29.l0
  repeat' with_reducible first | exact ih0 _ _ _ _ _ | exact ih1 _ _ _ _ _ _ | exact ih2 _ _ _ _ _ _ _ | exact ih3 _ _ _ _ _ _ _ _ | exact ih4 _ _ _ _ _ _ _ _ _ | exact ih5 _ _ _ _ _ _ _ _ _ _ _ | exact ih6 _ _ _ _ _ _ _ _ _ _ _ _ _ | exact ih7 _ _ _ _ _ _ _ _ _ _ | exact ih8 _ _ _ _ _ _ _ _ _ _ _ | exact ih9 _ _ _ _ _ _ _ _ _ | exact ih10 _ _ _ _ _ _ _ _ | exact ih11 _ _ _ | exact ih12 _ _ _ | exact ih13 _ _ _ _ _ _ _ _ _ _ _ _ | exact iF7.mono _ _ | exact iF8.mono _ _ | exact iF9.mono _ _ | exact iF12.mono _ _ _ | exact iF13.mono _ _ | exact iF14.mono _ _ | exact wF31.mono _ _ _ | exact wF32.mono _ _ _ | exact wF33.mono _ _ _ | exact sF36.mono _ _ | exact sF37.mono _ _ | exact sF38.mono _ _ | exact sF40.mono _ _ | exact sF41.mono _ _ | exact sF42.mono _ _ | exact sF43.mono _ _ _ | exact sF44.mono _ _ | exact sF45.mono _ _ | exact LeO.refl _ | exact LeO.none _ | refine LeO.ite ?_ ?_ | refine LeO.bind ?_ (fun _ => ?_)
theorem wF29.mono : ∀ a0 k, LeO (wF29.f k a0) (wF29.f (k + 1) a0) := by
 intro a0 k
 obtain ⟨ih0, ih1, ih2, ih3, ih4, ih5, ih6, ih7, ih8, ih9, ih10, ih11, ih12, ih13⟩ := wF29.mono_l k
 unfold wF29.f
 repeat' with_reducible first | exact ih0 _ _ _ _ _ | exact ih1 _ _ _ _ _ _ | exact ih2 _ _ _ _ _ _ _ | exact ih3 _ _ _ _ _ _ _ _ | exact ih4 _ _ _ _ _ _ _ _ _ | exact ih5 _ _ _ _ _ _ _ _ _ _ _ | exact ih6 _ _ _ _ _ _ _ _ _ _ _ _ _ | exact ih7 _ _ _ _ _ _ _ _ _ _ | exact ih8 _ _ _ _ _ _ _ _ _ _ _ | exact ih9 _ _ _ _ _ _ _ _ _ | exact ih10 _ _ _ _ _ _ _ _ | exact ih11 _ _ _ | exact ih12 _ _ _ | exact ih13 _ _ _ _ _ _ _ _ _ _ _ _ | exact iF7.mono _ _ | exact iF8.mono _ _ | exact iF9.mono _ _ | exact iF12.mono _ _ _ | exact iF13.mono _ _ | exact iF14.mono _ _ | exact wF31.mono _ _ _ | exact wF32.mono _ _ _ | exact wF33.mono _ _ _ | exact sF36.mono _ _ | exact sF37.mono _ _ | exact sF38.mono _ _ | exact sF40.mono _ _ | exact sF41.mono _ _ | exact sF42.mono _ _ | exact sF43.mono _ _ _ | exact sF44.mono _ _ | exact sF45.mono _ _ | exact LeO.refl _ | exact LeO.none _ | refine LeO.ite ?_ ?_ | refine LeO.bind ?_ (fun _ => ?_)
theorem wF29.calls (k : Nat) (A0 : Option Addr) (c0 : Nat) (l0 : List Int) (w : World) (hr0 : Kd.C (Kd.int .u8) w A0 l0.length l0) (hc0 : l0.length ≤ c0) (h : wF29.f k l0 = some true) :
  Calls Tryz.prog 3 #[.slice A0 l0.length c0] w fun e w' => e = .returned (.bool true) ∧ Below w.heap.size w w' := by
 have hu41 := Tryz.underlying41
 have HR0 := Aside0.mk hr0
 have HC0 := Aside0.mk hc0
 clear hr0 hc0
 have HB := Aside0.mk (Below.refl w.heap.size w)
 have H : ((wF30.f l0).bind fun t435 => (if t435 = true then (some true) else ((sF41.f k l0).bind fun t436 => ((iF14.f k t436).bind fun bt437 => ((sF45.f k t436).bind fun bt441 => (if (bt437.2 != bt441.2) = true then (wF29.j0 k l0 t436 bt437.1 bt437.2 true) else ((iF11.f t436).bind fun t445 => (if (bt437.2 != t445) = true then (wF29.j0 k l0 t436 bt437.1 bt437.2 true) else ((wF32.f k bt437.1 bt441.1).bind fun t446 => (wF29.j0 k l0 t436 bt437.1 bt437.2 (!t446))))))))))) = some true := h
 clear h
 replace H := Option.bind_eq_some_iff.mp H
 obtain ⟨t435, A20, H⟩ := H
 replace H : (if t435 = true then (some true) else ((sF41.f k l0).bind fun t436 => ((iF14.f k t436).bind fun bt437 => ((sF45.f k t436).bind fun bt441 => (if (bt437.2 != bt441.2) = true then (wF29.j0 k l0 t436 bt437.1 bt437.2 true) else ((iF11.f t436).bind fun t445 => (if (bt437.2 != t445) = true then (wF29.j0 k l0 t436 bt437.1 bt437.2 true) else ((wF32.f k bt437.1 bt441.1).bind fun t446 => (wF29.j0 k l0 t436 bt437.1 bt437.2 (!t446)))))))))) = some true := H
 have A2 := Aside0.mk A20
 clear A20
 by_cases c3 : t435 = true
 ·
  subst c3
  replace H : (some true) = some true := rfl
  first | obtain rfl := Option.some.inj H | clear H
  go_enter Tryz.func3, Tryz.ntmps3
  go_wp2_with (first | (go_at_call 5; (with_reducible refine (wF30.calls _ _ l0 true _ ?side1 HC0.out A2.out).mono ?_); (case side1 => repeat (first | exact HR0.out | with_reducible first | apply cA_ | apply cN_ | apply cD_)); rintro e w' ⟨rfl, ⟨nd, rfl⟩⟩; (try first | exact ⟨rfl, _, World.drewN_drewN _ _ _⟩ | exact ⟨rfl, _, Eq.trans (World.drewN_drewN _ _ _) (congrArg (World.drewN _) (Nat.add_assoc _ _ _))⟩)))
  repeat (go_quiet (first | (go_at_call 5; (with_reducible refine (wF30.calls _ _ l0 true _ ?side1 HC0.out A2.out).mono ?_); (case side1 => repeat (first | exact HR0.out | with_reducible first | apply cA_ | apply cN_ | apply cD_)); rintro e w' ⟨rfl, ⟨nd, rfl⟩⟩; (try first | exact ⟨rfl, _, World.drewN_drewN _ _ _⟩ | exact ⟨rfl, _, Eq.trans (World.drewN_drewN _ _ _) (congrArg (World.drewN _) (Nat.add_assoc _ _ _))⟩))); try go_wp2_with (first | (go_at_call 5; (with_reducible refine (wF30.calls _ _ l0 true _ ?side1 HC0.out A2.out).mono ?_); (case side1 => repeat (first | exact HR0.out | with_reducible first | apply cA_ | apply cN_ | apply cD_)); rintro e w' ⟨rfl, ⟨nd, rfl⟩⟩; (try first | exact ⟨rfl, _, World.drewN_drewN _ _ _⟩ | exact ⟨rfl, _, Eq.trans (World.drewN_drewN _ _ _) (congrArg (World.drewN _) (Nat.add_assoc _ _ _))⟩))))
  go_ret
  exact ⟨by first | rfl | (simp [errW_none, errW_some] <;> rfl) | (simp [*, errW_none, errW_some] <;> rfl), by repeat (first | (with_reducible first | exact HB.out | apply below_alloc | apply pw_below_drewN | apply below_drew1) | exact HB.out)⟩
 replace c3 := Bool.eq_false_iff.mpr c3
 subst c3
 replace H : ((sF41.f k l0).bind fun t436 => ((iF14.f k t436).bind fun bt437 => ((sF45.f k t436).bind fun bt441 => (if (bt437.2 != bt441.2) = true then (wF29.j0 k l0 t436 bt437.1 bt437.2 true) else ((iF11.f t436).bind fun t445 => (if (bt437.2 != t445) = true then (wF29.j0 k l0 t436 bt437.1 bt437.2 true) else ((wF32.f k bt437.1 bt441.1).bind fun t446 => (wF29.j0 k l0 t436 bt437.1 bt437.2 (!t446))))))))) = some true := by rw [if_neg (show ¬ (false = true) by decide)] at H; exact H
 replace H := Option.bind_eq_some_iff.mp H
 obtain ⟨t436, A40, H⟩ := H
 replace H : ((iF14.f k t436).bind fun bt437 => ((sF45.f k t436).bind fun bt441 => (if (bt437.2 != bt441.2) = true then (wF29.j0 k l0 t436 bt437.1 bt437.2 true) else ((iF11.f t436).bind fun t445 => (if (bt437.2 != t445) = true then (wF29.j0 k l0 t436 bt437.1 bt437.2 true) else ((wF32.f k bt437.1 bt441.1).bind fun t446 => (wF29.j0 k l0 t436 bt437.1 bt437.2 (!t446)))))))) = some true := H
 have A4 := Aside0.mk A40
 clear A40
 replace H := Option.bind_eq_some_iff.mp H
 obtain ⟨⟨t437, t438⟩, A50, H⟩ := H
 replace H : ((sF45.f k t436).bind fun bt441 => (if (t438 != bt441.2) = true then (wF29.j0 k l0 t436 t437 t438 true) else ((iF11.f t436).bind fun t445 => (if (t438 != t445) = true then (wF29.j0 k l0 t436 t437 t438 true) else ((wF32.f k t437 bt441.1).bind fun t446 => (wF29.j0 k l0 t436 t437 t438 (!t446))))))) = some true := H
 have A5 := Aside0.mk A50
 clear A50
 replace H := Option.bind_eq_some_iff.mp H
 obtain ⟨⟨t441, t442⟩, A60, H⟩ := H
 replace H : (if (t438 != t442) = true then (wF29.j0 k l0 t436 t437 t438 true) else ((iF11.f t436).bind fun t445 => (if (t438 != t445) = true then (wF29.j0 k l0 t436 t437 t438 true) else ((wF32.f k t437 t441).bind fun t446 => (wF29.j0 k l0 t436 t437 t438 (!t446)))))) = some true := H
 have A6 := Aside0.mk A60
 clear A60
 have HC7 := Aside0.mk H
 clear H
 go_enter Tryz.func3, Tryz.ntmps3
 go_upto_region 6 with (first | (go_at_call 5; (with_reducible refine (wF30.calls _ _ l0 false _ ?side1 HC0.out A2.out).mono ?_); (case side1 => repeat (first | exact HR0.out | with_reducible first | apply cA_ | apply cN_ | apply cD_)); rintro e w' ⟨rfl, ⟨nd, rfl⟩⟩; (try first | exact ⟨rfl, _, World.drewN_drewN _ _ _⟩ | exact ⟨rfl, _, Eq.trans (World.drewN_drewN _ _ _) (congrArg (World.drewN _) (Nat.add_assoc _ _ _))⟩)) | (go_at_call 6; (with_reducible refine (sF41.calls k _ _ l0 t436 _ ?side1 HC0.out A4.out).mono ?_); (case side1 => repeat (first | exact HR0.out | with_reducible first | apply cA_ | apply cN_ | apply cD_)); rintro e w8 ⟨rfl, hb⟩; have n0_ := Aside0.mk (below_step (by repeat (first | (with_reducible first | exact HB.out | apply below_alloc | apply pw_below_drewN | apply below_drew1) | exact HB.out)) hb); clear HB; have HB := n0_; clear n0_; (try clear hb); (try clear hb2); (try clear hk); (try clear hi)) | (go_at_call 7; (with_reducible refine (iF14.calls k t436 t437 t438 _ A5.out).mono ?_); rintro e w9 ⟨v439, rfl, ho0, hb⟩; have n0_ := Aside0.mk (Kd.R_lower ho0 (below_size (by repeat (first | (with_reducible first | exact HB.out | apply below_alloc | apply pw_below_drewN | apply below_drew1) | exact HB.out)))); have n1_ := Aside0.mk (below_step (by repeat (first | (with_reducible first | exact HB.out | apply below_alloc | apply pw_below_drewN | apply below_drew1) | exact HB.out)) hb); clear HB; have HO440 := n0_; have HB := n1_; clear n0_ n1_; (try clear hb); (try clear hb2); (try clear hk); (try clear hi); (try clear ho0)) | (go_at_call 8; (with_reducible refine (sF45.calls k t436 t441 t442 _ A6.out).mono ?_); rintro e w10 ⟨v443, rfl, ho0, hb⟩; have n0_ := Aside0.mk (Kd.R_elder' (by (with_reducible repeat (first | apply Kd.R_alloc | apply Kd.R_drewN | apply Kd.R_drew)); exact HO440.out) (Kd.R_base ho0) hb); have n1_ := Aside0.mk (Kd.R_lower (Kd.R_new' ho0 (Kd.R_lt (by (with_reducible repeat (first | apply Kd.R_alloc | apply Kd.R_drewN | apply Kd.R_drew)); exact HO440.out))) (below_size (by repeat (first | (with_reducible first | exact HB.out | apply below_alloc | apply pw_below_drewN | apply below_drew1) | exact HB.out)))); have n2_ := Aside0.mk (below_step (by repeat (first | (with_reducible first | exact HB.out | apply below_alloc | apply pw_below_drewN | apply below_drew1) | exact HB.out)) hb); clear HO440; clear HB; have HO440 := n0_; have HO444 := n1_; have HB := n2_; clear n0_ n1_ n2_; (try clear hb); (try clear hb2); (try clear hk); (try clear hi); (try clear ho0)))
 repeat (go_quiet (first | (go_at_call 5; (with_reducible refine (wF30.calls _ _ l0 false _ ?side1 HC0.out A2.out).mono ?_); (case side1 => repeat (first | exact HR0.out | with_reducible first | apply cA_ | apply cN_ | apply cD_)); rintro e w' ⟨rfl, ⟨nd, rfl⟩⟩; (try first | exact ⟨rfl, _, World.drewN_drewN _ _ _⟩ | exact ⟨rfl, _, Eq.trans (World.drewN_drewN _ _ _) (congrArg (World.drewN _) (Nat.add_assoc _ _ _))⟩)) | (go_at_call 6; (with_reducible refine (sF41.calls k _ _ l0 t436 _ ?side1 HC0.out A4.out).mono ?_); (case side1 => repeat (first | exact HR0.out | with_reducible first | apply cA_ | apply cN_ | apply cD_)); rintro e w8 ⟨rfl, hb⟩; have n0_ := Aside0.mk (below_step (by repeat (first | (with_reducible first | exact HB.out | apply below_alloc | apply pw_below_drewN | apply below_drew1) | exact HB.out)) hb); clear HB; have HB := n0_; clear n0_; (try clear hb); (try clear hb2); (try clear hk); (try clear hi)) | (go_at_call 7; (with_reducible refine (iF14.calls k t436 t437 t438 _ A5.out).mono ?_); rintro e w9 ⟨v439, rfl, ho0, hb⟩; have n0_ := Aside0.mk (Kd.R_lower ho0 (below_size (by repeat (first | (with_reducible first | exact HB.out | apply below_alloc | apply pw_below_drewN | apply below_drew1) | exact HB.out)))); have n1_ := Aside0.mk (below_step (by repeat (first | (with_reducible first | exact HB.out | apply below_alloc | apply pw_below_drewN | apply below_drew1) | exact HB.out)) hb); clear HB; have HO440 := n0_; have HB := n1_; clear n0_ n1_; (try clear hb); (try clear hb2); (try clear hk); (try clear hi); (try clear ho0)) | (go_at_call 8; (with_reducible refine (sF45.calls k t436 t441 t442 _ A6.out).mono ?_); rintro e w10 ⟨v443, rfl, ho0, hb⟩; have n0_ := Aside0.mk (Kd.R_elder' (by (with_reducible repeat (first | apply Kd.R_alloc | apply Kd.R_drewN | apply Kd.R_drew)); exact HO440.out) (Kd.R_base ho0) hb); have n1_ := Aside0.mk (Kd.R_lower (Kd.R_new' ho0 (Kd.R_lt (by (with_reducible repeat (first | apply Kd.R_alloc | apply Kd.R_drewN | apply Kd.R_drew)); exact HO440.out))) (below_size (by repeat (first | (with_reducible first | exact HB.out | apply below_alloc | apply pw_below_drewN | apply below_drew1) | exact HB.out)))); have n2_ := Aside0.mk (below_step (by repeat (first | (with_reducible first | exact HB.out | apply below_alloc | apply pw_below_drewN | apply below_drew1) | exact HB.out)) hb); clear HO440; clear HB; have HO440 := n0_; have HO444 := n1_; have HB := n2_; clear n0_ n1_ n2_; (try clear hb); (try clear hb2); (try clear hk); (try clear hi); (try clear ho0))); go_upto_region 6 with (first | (go_at_call 5; (with_reducible refine (wF30.calls _ _ l0 false _ ?side1 HC0.out A2.out).mono ?_); (case side1 => repeat (first | exact HR0.out | with_reducible first | apply cA_ | apply cN_ | apply cD_)); rintro e w' ⟨rfl, ⟨nd, rfl⟩⟩; (try first | exact ⟨rfl, _, World.drewN_drewN _ _ _⟩ | exact ⟨rfl, _, Eq.trans (World.drewN_drewN _ _ _) (congrArg (World.drewN _) (Nat.add_assoc _ _ _))⟩)) | (go_at_call 6; (with_reducible refine (sF41.calls k _ _ l0 t436 _ ?side1 HC0.out A4.out).mono ?_); (case side1 => repeat (first | exact HR0.out | with_reducible first | apply cA_ | apply cN_ | apply cD_)); rintro e w8 ⟨rfl, hb⟩; have n0_ := Aside0.mk (below_step (by repeat (first | (with_reducible first | exact HB.out | apply below_alloc | apply pw_below_drewN | apply below_drew1) | exact HB.out)) hb); clear HB; have HB := n0_; clear n0_; (try clear hb); (try clear hb2); (try clear hk); (try clear hi)) | (go_at_call 7; (with_reducible refine (iF14.calls k t436 t437 t438 _ A5.out).mono ?_); rintro e w9 ⟨v439, rfl, ho0, hb⟩; have n0_ := Aside0.mk (Kd.R_lower ho0 (below_size (by repeat (first | (with_reducible first | exact HB.out | apply below_alloc | apply pw_below_drewN | apply below_drew1) | exact HB.out)))); have n1_ := Aside0.mk (below_step (by repeat (first | (with_reducible first | exact HB.out | apply below_alloc | apply pw_below_drewN | apply below_drew1) | exact HB.out)) hb); clear HB; have HO440 := n0_; have HB := n1_; clear n0_ n1_; (try clear hb); (try clear hb2); (try clear hk); (try clear hi); (try clear ho0)) | (go_at_call 8; (with_reducible refine (sF45.calls k t436 t441 t442 _ A6.out).mono ?_); rintro e w10 ⟨v443, rfl, ho0, hb⟩; have n0_ := Aside0.mk (Kd.R_elder' (by (with_reducible repeat (first | apply Kd.R_alloc | apply Kd.R_drewN | apply Kd.R_drew)); exact HO440.out) (Kd.R_base ho0) hb); have n1_ := Aside0.mk (Kd.R_lower (Kd.R_new' ho0 (Kd.R_lt (by (with_reducible repeat (first | apply Kd.R_alloc | apply Kd.R_drewN | apply Kd.R_drew)); exact HO440.out))) (below_size (by repeat (first | (with_reducible first | exact HB.out | apply below_alloc | apply pw_below_drewN | apply below_drew1) | exact HB.out)))); have n2_ := Aside0.mk (below_step (by repeat (first | (with_reducible first | exact HB.out | apply below_alloc | apply pw_below_drewN | apply below_drew1) | exact HB.out)) hb); clear HO440; clear HB; have HO440 := n0_; have HO444 := n1_; have HB := n2_; clear n0_ n1_ n2_; (try clear hb); (try clear hb2); (try clear hk); (try clear hi); (try clear ho0))))
 (try simp only [Act.put, List.setIfInBounds_toArray, List.set_cons_zero, List.set_cons_succ])
 go_cut [71] from 100000 (fun v71 wc => ∃ (kq : Nat) (x71_6 : Bool), v71 = .bool x71_6 ∧ Aside0 (wF29.j0 kq l0 t436 t437 t438 x71_6 = some true) ∧ Aside0 (kq ≤ k) ∧ Aside0 (Kd.R Kd.string 9 wc w.heap.size (fun _ => True) v439 t437) ∧ Aside0 (Below w.heap.size w wc))
 case first =>
  have H := HC7.out
  clear HC7
  by_cases c11 : (t438 != t442) = true
  ·
   rw [if_pos c11] at H
   have c11b0 : (t438 != t442) = true := c11
   (try (have c11b1 : decide (t438 = t442) = false := by simpa using c11))
   (try (have c11b2 : (t438 == t442) = false := by simpa using c11))
   (try (have c11b3 : ¬ (t438 = t442) := by simpa using c11))
   clear c11
   (first | rw [c11b0] | (simp only [i64_w, i32_w]; rw [c11b0]) | skip)
   have H' := Aside0.mk H
   clear H
   go_wp2
   repeat (go_quiet (fail); try go_wp2)
   go_meet
   case rel => exact ⟨_, (true), (by first | rfl | (simp; done) | (simp [*]; done)), H', ⟨by first | omega | exact Nat.le_refl _⟩, ⟨by (with_reducible repeat (first | apply Kd.R_alloc | apply Kd.R_drewN | apply Kd.R_drew)); exact Kd.R_mono HO440.out (fun _ hk => trivial)⟩, ⟨by repeat (first | (with_reducible first | exact HB.out | apply below_alloc | apply pw_below_drewN | apply below_drew1) | exact HB.out)⟩⟩
  rw [if_neg c11] at H
  have c11b0 : (t438 != t442) = false := by simpa using c11
  (try (have c11b1 : decide (t438 = t442) = true := by simpa using c11))
  (try (have c11b2 : (t438 == t442) = true := by simpa using c11))
  clear c11
  (first | rw [c11b0] | (simp only [i64_w, i32_w]; rw [c11b0]) | skip)
  replace H := Option.bind_eq_some_iff.mp H
  obtain ⟨t445, A120, H⟩ := H
  replace H : (if (t438 != t445) = true then (wF29.j0 k l0 t436 t437 t438 true) else ((wF32.f k t437 t441).bind fun t446 => (wF29.j0 k l0 t436 t437 t438 (!t446)))) = some true := H
  have A12 := Aside0.mk A120
  clear A120
  by_cases c13 : (t438 != t445) = true
  ·
   rw [if_pos c13] at H
   have c13b0 : (t438 != t445) = true := c13
   (try (have c13b1 : decide (t438 = t445) = false := by simpa using c13))
   (try (have c13b2 : (t438 == t445) = false := by simpa using c13))
   (try (have c13b3 : ¬ (t438 = t445) := by simpa using c13))
   clear c13
   have H' := Aside0.mk H
   clear H
   go_wp2_with (first | (go_at_call 9; (with_reducible refine (iF11.calls t436 t445 _ A12.out).mono ?_); rintro e w14 ⟨rfl, hb⟩; have n0_ := Aside0.mk (Kd.R_below (by (with_reducible repeat (first | apply Kd.R_alloc | apply Kd.R_drewN | apply Kd.R_drew)); exact HO440.out) hb); have n1_ := Aside0.mk (Kd.R_below (by (with_reducible repeat (first | apply Kd.R_alloc | apply Kd.R_drewN | apply Kd.R_drew)); exact HO444.out) hb); have n2_ := Aside0.mk (below_step (by repeat (first | (with_reducible first | exact HB.out | apply below_alloc | apply pw_below_drewN | apply below_drew1) | exact HB.out)) hb); clear HO440; clear HO444; clear HB; have HO440 := n0_; have HO444 := n1_; have HB := n2_; clear n0_ n1_ n2_; (try clear hb); (try clear hb2); (try clear hk); (try clear hi)))
   repeat (go_quiet (first | (go_at_call 9; (with_reducible refine (iF11.calls t436 t445 _ A12.out).mono ?_); rintro e w14 ⟨rfl, hb⟩; have n0_ := Aside0.mk (Kd.R_below (by (with_reducible repeat (first | apply Kd.R_alloc | apply Kd.R_drewN | apply Kd.R_drew)); exact HO440.out) hb); have n1_ := Aside0.mk (Kd.R_below (by (with_reducible repeat (first | apply Kd.R_alloc | apply Kd.R_drewN | apply Kd.R_drew)); exact HO444.out) hb); have n2_ := Aside0.mk (below_step (by repeat (first | (with_reducible first | exact HB.out | apply below_alloc | apply pw_below_drewN | apply below_drew1) | exact HB.out)) hb); clear HO440; clear HO444; clear HB; have HO440 := n0_; have HO444 := n1_; have HB := n2_; clear n0_ n1_ n2_; (try clear hb); (try clear hb2); (try clear hk); (try clear hi))); try go_wp2_with (first | (go_at_call 9; (with_reducible refine (iF11.calls t436 t445 _ A12.out).mono ?_); rintro e w14 ⟨rfl, hb⟩; have n0_ := Aside0.mk (Kd.R_below (by (with_reducible repeat (first | apply Kd.R_alloc | apply Kd.R_drewN | apply Kd.R_drew)); exact HO440.out) hb); have n1_ := Aside0.mk (Kd.R_below (by (with_reducible repeat (first | apply Kd.R_alloc | apply Kd.R_drewN | apply Kd.R_drew)); exact HO444.out) hb); have n2_ := Aside0.mk (below_step (by repeat (first | (with_reducible first | exact HB.out | apply below_alloc | apply pw_below_drewN | apply below_drew1) | exact HB.out)) hb); clear HO440; clear HO444; clear HB; have HO440 := n0_; have HO444 := n1_; have HB := n2_; clear n0_ n1_ n2_; (try clear hb); (try clear hb2); (try clear hk); (try clear hi))))
   go_meet
   case rel => exact ⟨_, (true), (by first | rfl | (simp; done) | (simp [*]; done)), H', ⟨by first | omega | exact Nat.le_refl _⟩, ⟨by (with_reducible repeat (first | apply Kd.R_alloc | apply Kd.R_drewN | apply Kd.R_drew)); exact Kd.R_mono HO440.out (fun _ hk => trivial)⟩, ⟨by repeat (first | (with_reducible first | exact HB.out | apply below_alloc | apply pw_below_drewN | apply below_drew1) | exact HB.out)⟩⟩
  rw [if_neg c13] at H
  have c13b0 : (t438 != t445) = false := by simpa using c13
  (try (have c13b1 : decide (t438 = t445) = true := by simpa using c13))
  (try (have c13b2 : (t438 == t445) = true := by simpa using c13))
  clear c13
  replace H := Option.bind_eq_some_iff.mp H
  obtain ⟨t446, A150, H⟩ := H
  replace H : (wF29.j0 k l0 t436 t437 t438 (!t446)) = some true := H
  have A15 := Aside0.mk A150
  clear A150
  have H' := Aside0.mk H
  clear H
  go_wp2_with (first | (go_at_call 9; (with_reducible refine (iF11.calls t436 t445 _ A12.out).mono ?_); rintro e w16 ⟨rfl, hb⟩; have n0_ := Aside0.mk (Kd.R_below (by (with_reducible repeat (first | apply Kd.R_alloc | apply Kd.R_drewN | apply Kd.R_drew)); exact HO440.out) hb); have n1_ := Aside0.mk (Kd.R_below (by (with_reducible repeat (first | apply Kd.R_alloc | apply Kd.R_drewN | apply Kd.R_drew)); exact HO444.out) hb); have n2_ := Aside0.mk (below_step (by repeat (first | (with_reducible first | exact HB.out | apply below_alloc | apply pw_below_drewN | apply below_drew1) | exact HB.out)) hb); clear HO440; clear HO444; clear HB; have HO440 := n0_; have HO444 := n1_; have HB := n2_; clear n0_ n1_ n2_; (try clear hb); (try clear hb2); (try clear hk); (try clear hi); obtain ⟨Ao17, co17, eo17⟩ := Kd.R_slice HO440.out; subst eo17; obtain ⟨Ao18, co18, eo18⟩ := Kd.R_slice HO444.out; subst eo18) | (go_at_call 10; (with_reducible refine (wF32.calls k _ _ t437 _ _ t441 t446 _ ?side1 ?side2 ?side3 ?side4 A15.out).mono ?_); (case side1 => repeat (first | exact (Kd.R_reads' HO440.out).2.2 | with_reducible first | apply cA_ | apply cN_ | apply cD_)); (case side2 => exact (Kd.R_reads' HO440.out).2.1); (case side3 => repeat (first | exact (Kd.R_reads' HO444.out).2.2 | with_reducible first | apply cA_ | apply cN_ | apply cD_)); (case side4 => exact (Kd.R_reads' HO444.out).2.1); rintro e w' ⟨rfl, ⟨nd, rfl⟩⟩; (try first | exact ⟨rfl, _, World.drewN_drewN _ _ _⟩ | exact ⟨rfl, _, Eq.trans (World.drewN_drewN _ _ _) (congrArg (World.drewN _) (Nat.add_assoc _ _ _))⟩)))
  repeat (go_quiet (first | (go_at_call 9; (with_reducible refine (iF11.calls t436 t445 _ A12.out).mono ?_); rintro e w16 ⟨rfl, hb⟩; have n0_ := Aside0.mk (Kd.R_below (by (with_reducible repeat (first | apply Kd.R_alloc | apply Kd.R_drewN | apply Kd.R_drew)); exact HO440.out) hb); have n1_ := Aside0.mk (Kd.R_below (by (with_reducible repeat (first | apply Kd.R_alloc | apply Kd.R_drewN | apply Kd.R_drew)); exact HO444.out) hb); have n2_ := Aside0.mk (below_step (by repeat (first | (with_reducible first | exact HB.out | apply below_alloc | apply pw_below_drewN | apply below_drew1) | exact HB.out)) hb); clear HO440; clear HO444; clear HB; have HO440 := n0_; have HO444 := n1_; have HB := n2_; clear n0_ n1_ n2_; (try clear hb); (try clear hb2); (try clear hk); (try clear hi); obtain ⟨Ao17, co17, eo17⟩ := Kd.R_slice HO440.out; subst eo17; obtain ⟨Ao18, co18, eo18⟩ := Kd.R_slice HO444.out; subst eo18) | (go_at_call 10; (with_reducible refine (wF32.calls k _ _ t437 _ _ t441 t446 _ ?side1 ?side2 ?side3 ?side4 A15.out).mono ?_); (case side1 => repeat (first | exact (Kd.R_reads' HO440.out).2.2 | with_reducible first | apply cA_ | apply cN_ | apply cD_)); (case side2 => exact (Kd.R_reads' HO440.out).2.1); (case side3 => repeat (first | exact (Kd.R_reads' HO444.out).2.2 | with_reducible first | apply cA_ | apply cN_ | apply cD_)); (case side4 => exact (Kd.R_reads' HO444.out).2.1); rintro e w' ⟨rfl, ⟨nd, rfl⟩⟩; (try first | exact ⟨rfl, _, World.drewN_drewN _ _ _⟩ | exact ⟨rfl, _, Eq.trans (World.drewN_drewN _ _ _) (congrArg (World.drewN _) (Nat.add_assoc _ _ _))⟩))); try go_wp2_with (first | (go_at_call 9; (with_reducible refine (iF11.calls t436 t445 _ A12.out).mono ?_); rintro e w16 ⟨rfl, hb⟩; have n0_ := Aside0.mk (Kd.R_below (by (with_reducible repeat (first | apply Kd.R_alloc | apply Kd.R_drewN | apply Kd.R_drew)); exact HO440.out) hb); have n1_ := Aside0.mk (Kd.R_below (by (with_reducible repeat (first | apply Kd.R_alloc | apply Kd.R_drewN | apply Kd.R_drew)); exact HO444.out) hb); have n2_ := Aside0.mk (below_step (by repeat (first | (with_reducible first | exact HB.out | apply below_alloc | apply pw_below_drewN | apply below_drew1) | exact HB.out)) hb); clear HO440; clear HO444; clear HB; have HO440 := n0_; have HO444 := n1_; have HB := n2_; clear n0_ n1_ n2_; (try clear hb); (try clear hb2); (try clear hk); (try clear hi); obtain ⟨Ao17, co17, eo17⟩ := Kd.R_slice HO440.out; subst eo17; obtain ⟨Ao18, co18, eo18⟩ := Kd.R_slice HO444.out; subst eo18) | (go_at_call 10; (with_reducible refine (wF32.calls k _ _ t437 _ _ t441 t446 _ ?side1 ?side2 ?side3 ?side4 A15.out).mono ?_); (case side1 => repeat (first | exact (Kd.R_reads' HO440.out).2.2 | with_reducible first | apply cA_ | apply cN_ | apply cD_)); (case side2 => exact (Kd.R_reads' HO440.out).2.1); (case side3 => repeat (first | exact (Kd.R_reads' HO444.out).2.2 | with_reducible first | apply cA_ | apply cN_ | apply cD_)); (case side4 => exact (Kd.R_reads' HO444.out).2.1); rintro e w' ⟨rfl, ⟨nd, rfl⟩⟩; (try first | exact ⟨rfl, _, World.drewN_drewN _ _ _⟩ | exact ⟨rfl, _, Eq.trans (World.drewN_drewN _ _ _) (congrArg (World.drewN _) (Nat.add_assoc _ _ _))⟩))))
  go_meet
  case rel => exact ⟨_, (!t446), (by first | rfl | (simp; done) | (simp [*]; done)), H', ⟨by first | omega | exact Nat.le_refl _⟩, ⟨by (with_reducible repeat (first | apply Kd.R_alloc | apply Kd.R_drewN | apply Kd.R_drew)); exact Kd.R_mono HO440.out (fun _ hk => trivial)⟩, ⟨by repeat (first | (with_reducible first | exact HB.out | apply below_alloc | apply pw_below_drewN | apply below_drew1) | exact HB.out)⟩⟩
 clear HC7
 try clear c1
 try clear p2
 try clear c3
 try clear c11
 try clear c11b0
 try clear c11b1
 try clear c11b2
 try clear c13
 try clear c13b0
 try clear c13b1
 try clear c13b2
 obtain ⟨kq, x71_6, rfl, HA, HJ6, HO_4, HB⟩ := hcut
 cases kq with
 | zero => exact absurd HA.out (by simp [wF29.j0])
 | succ kj6 =>
  have H := HA.out
  clear HA
  simp only [wF29.j0] at H
  by_cases c19 : x71_6 = true
  ·
   subst c19
   replace H : (some false) = some true := by rw [if_pos rfl] at H; exact H
   exact absurd (Option.some.inj H) Bool.false_ne_true
  replace c19 := Bool.eq_false_iff.mpr c19
  subst c19
  replace H : ((iF9.f kj6 t436).bind fun bt447 => ((sF38.f kj6 t436).bind fun bt449 => (if bt447.1 = bt449.1 then (if (bt447.2 != bt449.2) = true then (wF29.j1 kj6 l0 t436 t437 t438 bt447.1 true) else (if (bt447.2 != t438) = true then (wF29.j1 kj6 l0 t436 t437 t438 bt447.1 true) else (if t438 = true then (wF29.j1 kj6 l0 t436 t437 t438 bt447.1 (bt447.1 != (t437.length : Int))) else (wF29.j1 kj6 l0 t436 t437 t438 bt447.1 false)))) else (wF29.j1 kj6 l0 t436 t437 t438 bt447.1 true)))) = some true := by rw [if_neg (show ¬ (false = true) by decide)] at H; exact H
  replace H := Option.bind_eq_some_iff.mp H
  obtain ⟨⟨t447, t448⟩, A200, H⟩ := H
  replace H : ((sF38.f kj6 t436).bind fun bt449 => (if t447 = bt449.1 then (if (t448 != bt449.2) = true then (wF29.j1 kj6 l0 t436 t437 t438 t447 true) else (if (t448 != t438) = true then (wF29.j1 kj6 l0 t436 t437 t438 t447 true) else (if t438 = true then (wF29.j1 kj6 l0 t436 t437 t438 t447 (t447 != (t437.length : Int))) else (wF29.j1 kj6 l0 t436 t437 t438 t447 false)))) else (wF29.j1 kj6 l0 t436 t437 t438 t447 true))) = some true := H
  have A20 := Aside0.mk A200
  clear A200
  replace H := Option.bind_eq_some_iff.mp H
  obtain ⟨⟨t449, t450⟩, A210, H⟩ := H
  replace H : (if t447 = t449 then (if (t448 != t450) = true then (wF29.j1 kj6 l0 t436 t437 t438 t447 true) else (if (t448 != t438) = true then (wF29.j1 kj6 l0 t436 t437 t438 t447 true) else (if t438 = true then (wF29.j1 kj6 l0 t436 t437 t438 t447 (t447 != (t437.length : Int))) else (wF29.j1 kj6 l0 t436 t437 t438 t447 false)))) else (wF29.j1 kj6 l0 t436 t437 t438 t447 true)) = some true := H
  have A21 := Aside0.mk A210
  clear A210
  have HC22 := Aside0.mk H
  clear H
  go_upto_region 10 with (first | (go_at_call 11; (with_reducible refine (iF9.calls kj6 t436 t447 t448 _ A20.out).mono ?_); rintro e w23 ⟨rfl, hb⟩; have n0_ := Aside0.mk (Kd.R_below (by (with_reducible repeat (first | apply Kd.R_alloc | apply Kd.R_drewN | apply Kd.R_drew)); exact HO_4.out) hb); have n1_ := Aside0.mk (below_step (by repeat (first | (with_reducible first | exact HB.out | apply below_alloc | apply pw_below_drewN | apply below_drew1) | exact HB.out)) hb); clear HO_4; clear HB; have HO_4 := n0_; have HB := n1_; clear n0_ n1_; (try clear hb); (try clear hb2); (try clear hk); (try clear hi)) | (go_at_call 12; (with_reducible refine (sF38.calls kj6 t436 t449 t450 _ A21.out).mono ?_); rintro e w24 ⟨rfl, hb⟩; have n0_ := Aside0.mk (Kd.R_below (by (with_reducible repeat (first | apply Kd.R_alloc | apply Kd.R_drewN | apply Kd.R_drew)); exact HO_4.out) hb); have n1_ := Aside0.mk (below_step (by repeat (first | (with_reducible first | exact HB.out | apply below_alloc | apply pw_below_drewN | apply below_drew1) | exact HB.out)) hb); clear HO_4; clear HB; have HO_4 := n0_; have HB := n1_; clear n0_ n1_; (try clear hb); (try clear hb2); (try clear hk); (try clear hi)))
  repeat (go_quiet (first | (go_at_call 11; (with_reducible refine (iF9.calls kj6 t436 t447 t448 _ A20.out).mono ?_); rintro e w23 ⟨rfl, hb⟩; have n0_ := Aside0.mk (Kd.R_below (by (with_reducible repeat (first | apply Kd.R_alloc | apply Kd.R_drewN | apply Kd.R_drew)); exact HO_4.out) hb); have n1_ := Aside0.mk (below_step (by repeat (first | (with_reducible first | exact HB.out | apply below_alloc | apply pw_below_drewN | apply below_drew1) | exact HB.out)) hb); clear HO_4; clear HB; have HO_4 := n0_; have HB := n1_; clear n0_ n1_; (try clear hb); (try clear hb2); (try clear hk); (try clear hi)) | (go_at_call 12; (with_reducible refine (sF38.calls kj6 t436 t449 t450 _ A21.out).mono ?_); rintro e w24 ⟨rfl, hb⟩; have n0_ := Aside0.mk (Kd.R_below (by (with_reducible repeat (first | apply Kd.R_alloc | apply Kd.R_drewN | apply Kd.R_drew)); exact HO_4.out) hb); have n1_ := Aside0.mk (below_step (by repeat (first | (with_reducible first | exact HB.out | apply below_alloc | apply pw_below_drewN | apply below_drew1) | exact HB.out)) hb); clear HO_4; clear HB; have HO_4 := n0_; have HB := n1_; clear n0_ n1_; (try clear hb); (try clear hb2); (try clear hk); (try clear hi))); go_upto_region 10 with (first | (go_at_call 11; (with_reducible refine (iF9.calls kj6 t436 t447 t448 _ A20.out).mono ?_); rintro e w23 ⟨rfl, hb⟩; have n0_ := Aside0.mk (Kd.R_below (by (with_reducible repeat (first | apply Kd.R_alloc | apply Kd.R_drewN | apply Kd.R_drew)); exact HO_4.out) hb); have n1_ := Aside0.mk (below_step (by repeat (first | (with_reducible first | exact HB.out | apply below_alloc | apply pw_below_drewN | apply below_drew1) | exact HB.out)) hb); clear HO_4; clear HB; have HO_4 := n0_; have HB := n1_; clear n0_ n1_; (try clear hb); (try clear hb2); (try clear hk); (try clear hi)) | (go_at_call 12; (with_reducible refine (sF38.calls kj6 t436 t449 t450 _ A21.out).mono ?_); rintro e w24 ⟨rfl, hb⟩; have n0_ := Aside0.mk (Kd.R_below (by (with_reducible repeat (first | apply Kd.R_alloc | apply Kd.R_drewN | apply Kd.R_drew)); exact HO_4.out) hb); have n1_ := Aside0.mk (below_step (by repeat (first | (with_reducible first | exact HB.out | apply below_alloc | apply pw_below_drewN | apply below_drew1) | exact HB.out)) hb); clear HO_4; clear HB; have HO_4 := n0_; have HB := n1_; clear n0_ n1_; (try clear hb); (try clear hb2); (try clear hk); (try clear hi))))
  (try simp only [Act.put, List.setIfInBounds_toArray, List.set_cons_zero, List.set_cons_succ])
  go_cut [103] from 100000 (fun v103 wc => ∃ (kq : Nat) (x103_21 : Bool), v103 = .bool x103_21 ∧ Aside0 (wF29.j1 kq l0 t436 t437 t438 t447 x103_21 = some true) ∧ Aside0 (kq ≤ kj6) ∧ Aside0 (Kd.R Kd.string 9 wc w.heap.size (fun _ => True) v439 t437) ∧ Aside0 (Below w.heap.size w wc))
  case first =>
   have H := HC22.out
   clear HC22
   by_cases c25 : t447 = t449
   rotate_left
   ·
    rw [if_neg c25] at H
    have c25b0 : (t447 == t449) = false := beq_eq_false_iff_ne.mpr c25
    have c25b1 : (t447 != t449) = true := bne_iff_ne.mpr c25
    (first | rw [c25b0] | (simp only [i64_w, i32_w]; rw [c25b0]) | skip)
    have H' := Aside0.mk H
    clear H
    go_wp2
    repeat (go_quiet (fail); try go_wp2)
    go_meet
    case rel => exact ⟨_, (true), (by first | rfl | (simp; done) | (simp [*]; done)), H', ⟨by have := HJ6.out; first | omega | exact Nat.le_refl _⟩, ⟨by (with_reducible repeat (first | apply Kd.R_alloc | apply Kd.R_drewN | apply Kd.R_drew)); exact HO_4.out⟩, ⟨by repeat (first | (with_reducible first | exact HB.out | apply below_alloc | apply pw_below_drewN | apply below_drew1) | exact HB.out)⟩⟩
   rw [if_pos c25] at H
   have c25b0 : (t447 == t449) = true := beq_iff_eq.mpr c25
   have c25b1 : (t447 != t449) = false := bne_eq_false_iff_eq.mpr c25
   clear c25
   (first | rw [c25b0] | (simp only [i64_w, i32_w]; rw [c25b0]) | skip)
   by_cases c26 : (t448 != t450) = true
   ·
    rw [if_pos c26] at H
    have c26b0 : (t448 != t450) = true := c26
    (try (have c26b1 : decide (t448 = t450) = false := by simpa using c26))
    (try (have c26b2 : (t448 == t450) = false := by simpa using c26))
    (try (have c26b3 : ¬ (t448 = t450) := by simpa using c26))
    clear c26
    have H' := Aside0.mk H
    clear H
    go_wp2
    repeat (go_quiet (fail); try go_wp2)
    go_meet
    case rel => exact ⟨_, (true), (by first | rfl | (simp; done) | (simp [*]; done)), H', ⟨by have := HJ6.out; first | omega | exact Nat.le_refl _⟩, ⟨by (with_reducible repeat (first | apply Kd.R_alloc | apply Kd.R_drewN | apply Kd.R_drew)); exact HO_4.out⟩, ⟨by repeat (first | (with_reducible first | exact HB.out | apply below_alloc | apply pw_below_drewN | apply below_drew1) | exact HB.out)⟩⟩
   rw [if_neg c26] at H
   have c26b0 : (t448 != t450) = false := by simpa using c26
   (try (have c26b1 : decide (t448 = t450) = true := by simpa using c26))
   (try (have c26b2 : (t448 == t450) = true := by simpa using c26))
   clear c26
   by_cases c27 : (t448 != t438) = true
   ·
    rw [if_pos c27] at H
    have c27b0 : (t448 != t438) = true := c27
    (try (have c27b1 : decide (t448 = t438) = false := by simpa using c27))
    (try (have c27b2 : (t448 == t438) = false := by simpa using c27))
    (try (have c27b3 : ¬ (t448 = t438) := by simpa using c27))
    clear c27
    have H' := Aside0.mk H
    clear H
    go_wp2
    repeat (go_quiet (fail); try go_wp2)
    go_meet
    case rel => exact ⟨_, (true), (by first | rfl | (simp; done) | (simp [*]; done)), H', ⟨by have := HJ6.out; first | omega | exact Nat.le_refl _⟩, ⟨by (with_reducible repeat (first | apply Kd.R_alloc | apply Kd.R_drewN | apply Kd.R_drew)); exact HO_4.out⟩, ⟨by repeat (first | (with_reducible first | exact HB.out | apply below_alloc | apply pw_below_drewN | apply below_drew1) | exact HB.out)⟩⟩
   rw [if_neg c27] at H
   have c27b0 : (t448 != t438) = false := by simpa using c27
   (try (have c27b1 : decide (t448 = t438) = true := by simpa using c27))
   (try (have c27b2 : (t448 == t438) = true := by simpa using c27))
   clear c27
   by_cases c28 : t438 = true
   ·
    subst c28
    replace H : (wF29.j1 kj6 l0 t436 t437 true t447 (t447 != (t437.length : Int))) = some true := by rw [if_pos rfl] at H; exact H
    have H' := Aside0.mk H
    clear H
    obtain ⟨Ao29, co29, eo29⟩ := Kd.R_slice HO_4.out
    subst eo29
    go_wp2
    repeat (go_quiet (fail); try go_wp2)
    go_meet
    case rel => exact ⟨_, ((t447 != (t437.length : Int))), (by first | rfl | (simp; done) | (simp [*]; done)), H', ⟨by have := HJ6.out; first | omega | exact Nat.le_refl _⟩, ⟨by (with_reducible repeat (first | apply Kd.R_alloc | apply Kd.R_drewN | apply Kd.R_drew)); exact HO_4.out⟩, ⟨by repeat (first | (with_reducible first | exact HB.out | apply below_alloc | apply pw_below_drewN | apply below_drew1) | exact HB.out)⟩⟩
   replace c28 := Bool.eq_false_iff.mpr c28
   subst c28
   replace H : (wF29.j1 kj6 l0 t436 t437 false t447 false) = some true := by rw [if_neg (show ¬ (false = true) by decide)] at H; exact H
   have H' := Aside0.mk H
   clear H
   go_wp2
   repeat (go_quiet (fail); try go_wp2)
   go_meet
   case rel => exact ⟨_, (false), (by first | rfl | (simp; done) | (simp [*]; done)), H', ⟨by have := HJ6.out; first | omega | exact Nat.le_refl _⟩, ⟨by (with_reducible repeat (first | apply Kd.R_alloc | apply Kd.R_drewN | apply Kd.R_drew)); exact HO_4.out⟩, ⟨by repeat (first | (with_reducible first | exact HB.out | apply below_alloc | apply pw_below_drewN | apply below_drew1) | exact HB.out)⟩⟩
  clear HC22
  try clear c1
  try clear c2
  try clear p2
  try clear c3
  try clear c11
  try clear c11b0
  try clear c11b1
  try clear c11b2
  try clear c13
  try clear c13b0
  try clear c13b1
  try clear c13b2
  try clear c19
  try clear c25
  try clear c25b0
  try clear c25b1
  try clear c26
  try clear c26b0
  try clear c26b1
  try clear c26b2
  try clear c27
  try clear c27b0
  try clear c27b1
  try clear c27b2
  try clear c28
  try clear p2
  obtain ⟨kq, x103_21, rfl, HA, HJ21, HO_4, HB⟩ := hcut
  cases kq with
  | zero => exact absurd HA.out (by simp [wF29.j1])
  | succ kj21 =>
   have H := HA.out
   clear HA
   simp only [wF29.j1] at H
   by_cases c30 : x103_21 = true
   ·
    subst c30
    replace H : (some false) = some true := by rw [if_pos rfl] at H; exact H
    exact absurd (Option.some.inj H) Bool.false_ne_true
   replace c30 := Bool.eq_false_iff.mpr c30
   subst c30
   replace H : ((iF8.f kj21 t436).bind fun bt451 => ((sF37.f kj21 t436).bind fun bt455 => (if (bt451.2 != bt455.2) = true then (wF29.j2 kj21 l0 t436 t437 t438 t447 bt451.1 true) else (if (bt451.2 != t438) = true then (wF29.j2 kj21 l0 t436 t437 t438 t447 bt451.1 true) else ((wF31.f kj21 bt451.1 bt455.1).bind fun t459 => (wF29.j2 kj21 l0 t436 t437 t438 t447 bt451.1 (!t459))))))) = some true := by rw [if_neg (show ¬ (false = true) by decide)] at H; exact H
   replace H := Option.bind_eq_some_iff.mp H
   obtain ⟨⟨t451, t452⟩, A310, H⟩ := H
   replace H : ((sF37.f kj21 t436).bind fun bt455 => (if (t452 != bt455.2) = true then (wF29.j2 kj21 l0 t436 t437 t438 t447 t451 true) else (if (t452 != t438) = true then (wF29.j2 kj21 l0 t436 t437 t438 t447 t451 true) else ((wF31.f kj21 t451 bt455.1).bind fun t459 => (wF29.j2 kj21 l0 t436 t437 t438 t447 t451 (!t459)))))) = some true := H
   have A31 := Aside0.mk A310
   clear A310
   replace H := Option.bind_eq_some_iff.mp H
   obtain ⟨⟨t455, t456⟩, A320, H⟩ := H
   replace H : (if (t452 != t456) = true then (wF29.j2 kj21 l0 t436 t437 t438 t447 t451 true) else (if (t452 != t438) = true then (wF29.j2 kj21 l0 t436 t437 t438 t447 t451 true) else ((wF31.f kj21 t451 t455).bind fun t459 => (wF29.j2 kj21 l0 t436 t437 t438 t447 t451 (!t459))))) = some true := H
   have A32 := Aside0.mk A320
   clear A320
   have HC33 := Aside0.mk H
   clear H
   go_upto_region 14 with (first | (go_at_call 13; (with_reducible refine (iF8.calls kj21 t436 t451 t452 _ A31.out).mono ?_); rintro e w34 ⟨v453, rfl, ho0, hb⟩; have n0_ := Aside0.mk (Kd.R_below (by (with_reducible repeat (first | apply Kd.R_alloc | apply Kd.R_drewN | apply Kd.R_drew)); exact HO_4.out) hb); have n1_ := Aside0.mk (Kd.R_lower ho0 (below_size (by repeat (first | (with_reducible first | exact HB.out | apply below_alloc | apply pw_below_drewN | apply below_drew1) | exact HB.out)))); have n2_ := Aside0.mk (below_step (by repeat (first | (with_reducible first | exact HB.out | apply below_alloc | apply pw_below_drewN | apply below_drew1) | exact HB.out)) hb); clear HO_4; clear HB; have HO_4 := n0_; have HO454 := n1_; have HB := n2_; clear n0_ n1_ n2_; (try clear hb); (try clear hb2); (try clear hk); (try clear hi); (try clear ho0)) | (go_at_call 14; (with_reducible refine (sF37.calls kj21 t436 t455 t456 _ A32.out).mono ?_); rintro e w35 ⟨v457, rfl, ho0, hb⟩; have n0_ := Aside0.mk (Kd.R_below (by (with_reducible repeat (first | apply Kd.R_alloc | apply Kd.R_drewN | apply Kd.R_drew)); exact HO_4.out) hb); have n1_ := Aside0.mk (Kd.R_elder' (by (with_reducible repeat (first | apply Kd.R_alloc | apply Kd.R_drewN | apply Kd.R_drew)); exact HO454.out) (Kd.R_base ho0) hb); have n2_ := Aside0.mk (Kd.R_lower (Kd.R_new' ho0 (Kd.R_lt (by (with_reducible repeat (first | apply Kd.R_alloc | apply Kd.R_drewN | apply Kd.R_drew)); exact HO454.out))) (below_size (by repeat (first | (with_reducible first | exact HB.out | apply below_alloc | apply pw_below_drewN | apply below_drew1) | exact HB.out)))); have n3_ := Aside0.mk (below_step (by repeat (first | (with_reducible first | exact HB.out | apply below_alloc | apply pw_below_drewN | apply below_drew1) | exact HB.out)) hb); clear HO_4; clear HO454; clear HB; have HO_4 := n0_; have HO454 := n1_; have HO458 := n2_; have HB := n3_; clear n0_ n1_ n2_ n3_; (try clear hb); (try clear hb2); (try clear hk); (try clear hi); (try clear ho0)))
   repeat (go_quiet (first | (go_at_call 13; (with_reducible refine (iF8.calls kj21 t436 t451 t452 _ A31.out).mono ?_); rintro e w34 ⟨v453, rfl, ho0, hb⟩; have n0_ := Aside0.mk (Kd.R_below (by (with_reducible repeat (first | apply Kd.R_alloc | apply Kd.R_drewN | apply Kd.R_drew)); exact HO_4.out) hb); have n1_ := Aside0.mk (Kd.R_lower ho0 (below_size (by repeat (first | (with_reducible first | exact HB.out | apply below_alloc | apply pw_below_drewN | apply below_drew1) | exact HB.out)))); have n2_ := Aside0.mk (below_step (by repeat (first | (with_reducible first | exact HB.out | apply below_alloc | apply pw_below_drewN | apply below_drew1) | exact HB.out)) hb); clear HO_4; clear HB; have HO_4 := n0_; have HO454 := n1_; have HB := n2_; clear n0_ n1_ n2_; (try clear hb); (try clear hb2); (try clear hk); (try clear hi); (try clear ho0)) | (go_at_call 14; (with_reducible refine (sF37.calls kj21 t436 t455 t456 _ A32.out).mono ?_); rintro e w35 ⟨v457, rfl, ho0, hb⟩; have n0_ := Aside0.mk (Kd.R_below (by (with_reducible repeat (first | apply Kd.R_alloc | apply Kd.R_drewN | apply Kd.R_drew)); exact HO_4.out) hb); have n1_ := Aside0.mk (Kd.R_elder' (by (with_reducible repeat (first | apply Kd.R_alloc | apply Kd.R_drewN | apply Kd.R_drew)); exact HO454.out) (Kd.R_base ho0) hb); have n2_ := Aside0.mk (Kd.R_lower (Kd.R_new' ho0 (Kd.R_lt (by (with_reducible repeat (first | apply Kd.R_alloc | apply Kd.R_drewN | apply Kd.R_drew)); exact HO454.out))) (below_size (by repeat (first | (with_reducible first | exact HB.out | apply below_alloc | apply pw_below_drewN | apply below_drew1) | exact HB.out)))); have n3_ := Aside0.mk (below_step (by repeat (first | (with_reducible first | exact HB.out | apply below_alloc | apply pw_below_drewN | apply below_drew1) | exact HB.out)) hb); clear HO_4; clear HO454; clear HB; have HO_4 := n0_; have HO454 := n1_; have HO458 := n2_; have HB := n3_; clear n0_ n1_ n2_ n3_; (try clear hb); (try clear hb2); (try clear hk); (try clear hi); (try clear ho0))); go_upto_region 14 with (first | (go_at_call 13; (with_reducible refine (iF8.calls kj21 t436 t451 t452 _ A31.out).mono ?_); rintro e w34 ⟨v453, rfl, ho0, hb⟩; have n0_ := Aside0.mk (Kd.R_below (by (with_reducible repeat (first | apply Kd.R_alloc | apply Kd.R_drewN | apply Kd.R_drew)); exact HO_4.out) hb); have n1_ := Aside0.mk (Kd.R_lower ho0 (below_size (by repeat (first | (with_reducible first | exact HB.out | apply below_alloc | apply pw_below_drewN | apply below_drew1) | exact HB.out)))); have n2_ := Aside0.mk (below_step (by repeat (first | (with_reducible first | exact HB.out | apply below_alloc | apply pw_below_drewN | apply below_drew1) | exact HB.out)) hb); clear HO_4; clear HB; have HO_4 := n0_; have HO454 := n1_; have HB := n2_; clear n0_ n1_ n2_; (try clear hb); (try clear hb2); (try clear hk); (try clear hi); (try clear ho0)) | (go_at_call 14; (with_reducible refine (sF37.calls kj21 t436 t455 t456 _ A32.out).mono ?_); rintro e w35 ⟨v457, rfl, ho0, hb⟩; have n0_ := Aside0.mk (Kd.R_below (by (with_reducible repeat (first | apply Kd.R_alloc | apply Kd.R_drewN | apply Kd.R_drew)); exact HO_4.out) hb); have n1_ := Aside0.mk (Kd.R_elder' (by (with_reducible repeat (first | apply Kd.R_alloc | apply Kd.R_drewN | apply Kd.R_drew)); exact HO454.out) (Kd.R_base ho0) hb); have n2_ := Aside0.mk (Kd.R_lower (Kd.R_new' ho0 (Kd.R_lt (by (with_reducible repeat (first | apply Kd.R_alloc | apply Kd.R_drewN | apply Kd.R_drew)); exact HO454.out))) (below_size (by repeat (first | (with_reducible first | exact HB.out | apply below_alloc | apply pw_below_drewN | apply below_drew1) | exact HB.out)))); have n3_ := Aside0.mk (below_step (by repeat (first | (with_reducible first | exact HB.out | apply below_alloc | apply pw_below_drewN | apply below_drew1) | exact HB.out)) hb); clear HO_4; clear HO454; clear HB; have HO_4 := n0_; have HO454 := n1_; have HO458 := n2_; have HB := n3_; clear n0_ n1_ n2_ n3_; (try clear hb); (try clear hb2); (try clear hk); (try clear hi); (try clear ho0))))
   (try simp only [Act.put, List.setIfInBounds_toArray, List.set_cons_zero, List.set_cons_succ])
   go_cut [127] from 100000 (fun v127 wc => ∃ (kq : Nat) (x127_32 : Bool), v127 = .bool x127_32 ∧ Aside0 (wF29.j2 kq l0 t436 t437 t438 t447 t451 x127_32 = some true) ∧ Aside0 (kq ≤ kj21) ∧ Aside0 (Kd.R Kd.string 9 wc w.heap.size (fun _ => True) v439 t437) ∧ Aside0 (Kd.R (Kd.int .i64) 3 wc w.heap.size (fun _ => True) v453 t451) ∧ Aside0 (Below w.heap.size w wc))
   case first =>
    have H := HC33.out
    clear HC33
    by_cases c36 : (t452 != t456) = true
    ·
     rw [if_pos c36] at H
     have c36b0 : (t452 != t456) = true := c36
     (try (have c36b1 : decide (t452 = t456) = false := by simpa using c36))
     (try (have c36b2 : (t452 == t456) = false := by simpa using c36))
     (try (have c36b3 : ¬ (t452 = t456) := by simpa using c36))
     clear c36
     (first | rw [c36b0] | (simp only [i64_w, i32_w]; rw [c36b0]) | skip)
     have H' := Aside0.mk H
     clear H
     go_wp2
     repeat (go_quiet (fail); try go_wp2)
     go_meet
     case rel => exact ⟨_, (true), (by first | rfl | (simp; done) | (simp [*]; done)), H', ⟨by have := HJ6.out; have := HJ21.out; first | omega | exact Nat.le_refl _⟩, ⟨by (with_reducible repeat (first | apply Kd.R_alloc | apply Kd.R_drewN | apply Kd.R_drew)); exact HO_4.out⟩, ⟨by (with_reducible repeat (first | apply Kd.R_alloc | apply Kd.R_drewN | apply Kd.R_drew)); exact Kd.R_mono HO454.out (fun _ hk => trivial)⟩, ⟨by repeat (first | (with_reducible first | exact HB.out | apply below_alloc | apply pw_below_drewN | apply below_drew1) | exact HB.out)⟩⟩
    rw [if_neg c36] at H
    have c36b0 : (t452 != t456) = false := by simpa using c36
    (try (have c36b1 : decide (t452 = t456) = true := by simpa using c36))
    (try (have c36b2 : (t452 == t456) = true := by simpa using c36))
    clear c36
    (first | rw [c36b0] | (simp only [i64_w, i32_w]; rw [c36b0]) | skip)
    by_cases c37 : (t452 != t438) = true
    ·
     rw [if_pos c37] at H
     have c37b0 : (t452 != t438) = true := c37
     (try (have c37b1 : decide (t452 = t438) = false := by simpa using c37))
     (try (have c37b2 : (t452 == t438) = false := by simpa using c37))
     (try (have c37b3 : ¬ (t452 = t438) := by simpa using c37))
     clear c37
     have H' := Aside0.mk H
     clear H
     go_wp2
     repeat (go_quiet (fail); try go_wp2)
     go_meet
     case rel => exact ⟨_, (true), (by first | rfl | (simp; done) | (simp [*]; done)), H', ⟨by have := HJ6.out; have := HJ21.out; first | omega | exact Nat.le_refl _⟩, ⟨by (with_reducible repeat (first | apply Kd.R_alloc | apply Kd.R_drewN | apply Kd.R_drew)); exact HO_4.out⟩, ⟨by (with_reducible repeat (first | apply Kd.R_alloc | apply Kd.R_drewN | apply Kd.R_drew)); exact Kd.R_mono HO454.out (fun _ hk => trivial)⟩, ⟨by repeat (first | (with_reducible first | exact HB.out | apply below_alloc | apply pw_below_drewN | apply below_drew1) | exact HB.out)⟩⟩
    rw [if_neg c37] at H
    have c37b0 : (t452 != t438) = false := by simpa using c37
    (try (have c37b1 : decide (t452 = t438) = true := by simpa using c37))
    (try (have c37b2 : (t452 == t438) = true := by simpa using c37))
    clear c37
    replace H := Option.bind_eq_some_iff.mp H
    obtain ⟨t459, A380, H⟩ := H
    replace H : (wF29.j2 kj21 l0 t436 t437 t438 t447 t451 (!t459)) = some true := H
    have A38 := Aside0.mk A380
    clear A380
    have H' := Aside0.mk H
    clear H
    obtain ⟨Ao39, co39, eo39⟩ := Kd.R_slice HO454.out
    subst eo39
    obtain ⟨Ao40, co40, eo40⟩ := Kd.R_slice HO458.out
    subst eo40
    go_wp2_with (first | (go_at_call 15; (with_reducible refine (wF31.calls kj21 _ _ t451 _ _ t455 t459 _ ?side1 ?side2 ?side3 ?side4 A38.out).mono ?_); (case side1 => repeat (first | exact (Kd.R_reads' HO454.out).2.2 | with_reducible first | apply cA_ | apply cN_ | apply cD_)); (case side2 => exact (Kd.R_reads' HO454.out).2.1); (case side3 => repeat (first | exact (Kd.R_reads' HO458.out).2.2 | with_reducible first | apply cA_ | apply cN_ | apply cD_)); (case side4 => exact (Kd.R_reads' HO458.out).2.1); rintro e w' ⟨rfl, ⟨nd, rfl⟩⟩; (try first | exact ⟨rfl, _, World.drewN_drewN _ _ _⟩ | exact ⟨rfl, _, Eq.trans (World.drewN_drewN _ _ _) (congrArg (World.drewN _) (Nat.add_assoc _ _ _))⟩)))
    repeat (go_quiet (first | (go_at_call 15; (with_reducible refine (wF31.calls kj21 _ _ t451 _ _ t455 t459 _ ?side1 ?side2 ?side3 ?side4 A38.out).mono ?_); (case side1 => repeat (first | exact (Kd.R_reads' HO454.out).2.2 | with_reducible first | apply cA_ | apply cN_ | apply cD_)); (case side2 => exact (Kd.R_reads' HO454.out).2.1); (case side3 => repeat (first | exact (Kd.R_reads' HO458.out).2.2 | with_reducible first | apply cA_ | apply cN_ | apply cD_)); (case side4 => exact (Kd.R_reads' HO458.out).2.1); rintro e w' ⟨rfl, ⟨nd, rfl⟩⟩; (try first | exact ⟨rfl, _, World.drewN_drewN _ _ _⟩ | exact ⟨rfl, _, Eq.trans (World.drewN_drewN _ _ _) (congrArg (World.drewN _) (Nat.add_assoc _ _ _))⟩))); try go_wp2_with (first | (go_at_call 15; (with_reducible refine (wF31.calls kj21 _ _ t451 _ _ t455 t459 _ ?side1 ?side2 ?side3 ?side4 A38.out).mono ?_); (case side1 => repeat (first | exact (Kd.R_reads' HO454.out).2.2 | with_reducible first | apply cA_ | apply cN_ | apply cD_)); (case side2 => exact (Kd.R_reads' HO454.out).2.1); (case side3 => repeat (first | exact (Kd.R_reads' HO458.out).2.2 | with_reducible first | apply cA_ | apply cN_ | apply cD_)); (case side4 => exact (Kd.R_reads' HO458.out).2.1); rintro e w' ⟨rfl, ⟨nd, rfl⟩⟩; (try first | exact ⟨rfl, _, World.drewN_drewN _ _ _⟩ | exact ⟨rfl, _, Eq.trans (World.drewN_drewN _ _ _) (congrArg (World.drewN _) (Nat.add_assoc _ _ _))⟩))))
    go_meet
    case rel => exact ⟨_, (!t459), (by first | rfl | (simp; done) | (simp [*]; done)), H', ⟨by have := HJ6.out; have := HJ21.out; first | omega | exact Nat.le_refl _⟩, ⟨by (with_reducible repeat (first | apply Kd.R_alloc | apply Kd.R_drewN | apply Kd.R_drew)); exact HO_4.out⟩, ⟨by (with_reducible repeat (first | apply Kd.R_alloc | apply Kd.R_drewN | apply Kd.R_drew)); exact Kd.R_mono HO454.out (fun _ hk => trivial)⟩, ⟨by repeat (first | (with_reducible first | exact HB.out | apply below_alloc | apply pw_below_drewN | apply below_drew1) | exact HB.out)⟩⟩
   clear HC33
   try clear c1
   try clear c2
   try clear p2
   try clear c3
   try clear c11
   try clear c11b0
   try clear c11b1
   try clear c11b2
   try clear c13
   try clear c13b0
   try clear c13b1
   try clear c13b2
   try clear c19
   try clear c25
   try clear c25b0
   try clear c25b1
   try clear c26
   try clear c26b0
   try clear c26b1
   try clear c26b2
   try clear c27
   try clear c27b0
   try clear c27b1
   try clear c27b2
   try clear c28
   try clear c30
   try clear c36
   try clear c36b0
   try clear c36b1
   try clear c36b2
   try clear c37
   try clear c37b0
   try clear c37b1
   try clear c37b2
   try clear p2
   obtain ⟨kq, x127_32, rfl, HA, HJ32, HO_4, HO_12, HB⟩ := hcut
   cases kq with
   | zero => exact absurd HA.out (by simp [wF29.j2])
   | succ kj32 =>
    have H := HA.out
    clear HA
    simp only [wF29.j2] at H
    by_cases c41 : x127_32 = true
    ·
     subst c41
     replace H : (some false) = some true := by rw [if_pos rfl] at H; exact H
     exact absurd (Option.some.inj H) Bool.false_ne_true
    replace c41 := Bool.eq_false_iff.mpr c41
    subst c41
    replace H : ((iF10.f t436).bind fun bt460 => ((sF42.f kj32 t436).bind fun bt464 => (if (bt460.2 != bt464.2) = true then (wF29.j3 kj32 l0 t436 t437 t438 t447 t451 bt460.1 true) else (if (bt460.2 != t438) = true then (wF29.j3 kj32 l0 t436 t437 t438 t447 t451 bt460.1 true) else ((wF31.f kj32 bt460.1 bt464.1).bind fun t468 => (wF29.j3 kj32 l0 t436 t437 t438 t447 t451 bt460.1 (!t468))))))) = some true := by rw [if_neg (show ¬ (false = true) by decide)] at H; exact H
    replace H := Option.bind_eq_some_iff.mp H
    obtain ⟨⟨t460, t461⟩, A420, H⟩ := H
    replace H : ((sF42.f kj32 t436).bind fun bt464 => (if (t461 != bt464.2) = true then (wF29.j3 kj32 l0 t436 t437 t438 t447 t451 t460 true) else (if (t461 != t438) = true then (wF29.j3 kj32 l0 t436 t437 t438 t447 t451 t460 true) else ((wF31.f kj32 t460 bt464.1).bind fun t468 => (wF29.j3 kj32 l0 t436 t437 t438 t447 t451 t460 (!t468)))))) = some true := H
    have A42 := Aside0.mk A420
    clear A420
    replace H := Option.bind_eq_some_iff.mp H
    obtain ⟨⟨t464, t465⟩, A430, H⟩ := H
    replace H : (if (t461 != t465) = true then (wF29.j3 kj32 l0 t436 t437 t438 t447 t451 t460 true) else (if (t461 != t438) = true then (wF29.j3 kj32 l0 t436 t437 t438 t447 t451 t460 true) else ((wF31.f kj32 t460 t464).bind fun t468 => (wF29.j3 kj32 l0 t436 t437 t438 t447 t451 t460 (!t468))))) = some true := H
    have A43 := Aside0.mk A430
    clear A430
    have HC44 := Aside0.mk H
    clear H
    go_upto_region 18 with (first | (go_at_call 16; (with_reducible refine (iF10.calls t436 t460 t461 _ A42.out).mono ?_); rintro e w45 ⟨v462, rfl, ho0, hb⟩; have n0_ := Aside0.mk (Kd.R_below (by (with_reducible repeat (first | apply Kd.R_alloc | apply Kd.R_drewN | apply Kd.R_drew)); exact HO_4.out) hb); have n1_ := Aside0.mk (Kd.R_elder' (by (with_reducible repeat (first | apply Kd.R_alloc | apply Kd.R_drewN | apply Kd.R_drew)); exact HO_12.out) (Kd.R_base ho0) hb); have n2_ := Aside0.mk (Kd.R_lower (Kd.R_new' ho0 (Kd.R_lt (by (with_reducible repeat (first | apply Kd.R_alloc | apply Kd.R_drewN | apply Kd.R_drew)); exact HO_12.out))) (below_size (by repeat (first | (with_reducible first | exact HB.out | apply below_alloc | apply pw_below_drewN | apply below_drew1) | exact HB.out)))); have n3_ := Aside0.mk (below_step (by repeat (first | (with_reducible first | exact HB.out | apply below_alloc | apply pw_below_drewN | apply below_drew1) | exact HB.out)) hb); clear HO_4; clear HO_12; clear HB; have HO_4 := n0_; have HO_12 := n1_; have HO463 := n2_; have HB := n3_; clear n0_ n1_ n2_ n3_; (try clear hb); (try clear hb2); (try clear hk); (try clear hi); (try clear ho0)) | (go_at_call 17; (with_reducible refine (sF42.calls kj32 t436 t464 t465 _ A43.out).mono ?_); rintro e w46 ⟨v466, rfl, ho0, hb⟩; have n0_ := Aside0.mk (Kd.R_below (by (with_reducible repeat (first | apply Kd.R_alloc | apply Kd.R_drewN | apply Kd.R_drew)); exact HO_4.out) hb); have n1_ := Aside0.mk (Kd.R_elder' (by (with_reducible repeat (first | apply Kd.R_alloc | apply Kd.R_drewN | apply Kd.R_drew)); exact HO_12.out) (Kd.R_base ho0) hb); have n2_ := Aside0.mk (Kd.R_elder' (by (with_reducible repeat (first | apply Kd.R_alloc | apply Kd.R_drewN | apply Kd.R_drew)); exact HO463.out) (Kd.R_base ho0) hb); have n3_ := Aside0.mk (Kd.R_lower (Kd.R_new' (Kd.R_new' ho0 (Kd.R_lt (by (with_reducible repeat (first | apply Kd.R_alloc | apply Kd.R_drewN | apply Kd.R_drew)); exact HO_12.out))) (Kd.R_lt (by (with_reducible repeat (first | apply Kd.R_alloc | apply Kd.R_drewN | apply Kd.R_drew)); exact HO463.out))) (below_size (by repeat (first | (with_reducible first | exact HB.out | apply below_alloc | apply pw_below_drewN | apply below_drew1) | exact HB.out)))); have n4_ := Aside0.mk (below_step (by repeat (first | (with_reducible first | exact HB.out | apply below_alloc | apply pw_below_drewN | apply below_drew1) | exact HB.out)) hb); clear HO_4; clear HO_12; clear HO463; clear HB; have HO_4 := n0_; have HO_12 := n1_; have HO463 := n2_; have HO467 := n3_; have HB := n4_; clear n0_ n1_ n2_ n3_ n4_; (try clear hb); (try clear hb2); (try clear hk); (try clear hi); (try clear ho0)))
    repeat (go_quiet (first | (go_at_call 16; (with_reducible refine (iF10.calls t436 t460 t461 _ A42.out).mono ?_); rintro e w45 ⟨v462, rfl, ho0, hb⟩; have n0_ := Aside0.mk (Kd.R_below (by (with_reducible repeat (first | apply Kd.R_alloc | apply Kd.R_drewN | apply Kd.R_drew)); exact HO_4.out) hb); have n1_ := Aside0.mk (Kd.R_elder' (by (with_reducible repeat (first | apply Kd.R_alloc | apply Kd.R_drewN | apply Kd.R_drew)); exact HO_12.out) (Kd.R_base ho0) hb); have n2_ := Aside0.mk (Kd.R_lower (Kd.R_new' ho0 (Kd.R_lt (by (with_reducible repeat (first | apply Kd.R_alloc | apply Kd.R_drewN | apply Kd.R_drew)); exact HO_12.out))) (below_size (by repeat (first | (with_reducible first | exact HB.out | apply below_alloc | apply pw_below_drewN | apply below_drew1) | exact HB.out)))); have n3_ := Aside0.mk (below_step (by repeat (first | (with_reducible first | exact HB.out | apply below_alloc | apply pw_below_drewN | apply below_drew1) | exact HB.out)) hb); clear HO_4; clear HO_12; clear HB; have HO_4 := n0_; have HO_12 := n1_; have HO463 := n2_; have HB := n3_; clear n0_ n1_ n2_ n3_; (try clear hb); (try clear hb2); (try clear hk); (try clear hi); (try clear ho0)) | (go_at_call 17; (with_reducible refine (sF42.calls kj32 t436 t464 t465 _ A43.out).mono ?_); rintro e w46 ⟨v466, rfl, ho0, hb⟩; have n0_ := Aside0.mk (Kd.R_below (by (with_reducible repeat (first | apply Kd.R_alloc | apply Kd.R_drewN | apply Kd.R_drew)); exact HO_4.out) hb); have n1_ := Aside0.mk (Kd.R_elder' (by (with_reducible repeat (first | apply Kd.R_alloc | apply Kd.R_drewN | apply Kd.R_drew)); exact HO_12.out) (Kd.R_base ho0) hb); have n2_ := Aside0.mk (Kd.R_elder' (by (with_reducible repeat (first | apply Kd.R_alloc | apply Kd.R_drewN | apply Kd.R_drew)); exact HO463.out) (Kd.R_base ho0) hb); have n3_ := Aside0.mk (Kd.R_lower (Kd.R_new' (Kd.R_new' ho0 (Kd.R_lt (by (with_reducible repeat (first | apply Kd.R_alloc | apply Kd.R_drewN | apply Kd.R_drew)); exact HO_12.out))) (Kd.R_lt (by (with_reducible repeat (first | apply Kd.R_alloc | apply Kd.R_drewN | apply Kd.R_drew)); exact HO463.out))) (below_size (by repeat (first | (with_reducible first | exact HB.out | apply below_alloc | apply pw_below_drewN | apply below_drew1) | exact HB.out)))); have n4_ := Aside0.mk (below_step (by repeat (first | (with_reducible first | exact HB.out | apply below_alloc | apply pw_below_drewN | apply below_drew1) | exact HB.out)) hb); clear HO_4; clear HO_12; clear HO463; clear HB; have HO_4 := n0_; have HO_12 := n1_; have HO463 := n2_; have HO467 := n3_; have HB := n4_; clear n0_ n1_ n2_ n3_ n4_; (try clear hb); (try clear hb2); (try clear hk); (try clear hi); (try clear ho0))); go_upto_region 18 with (first | (go_at_call 16; (with_reducible refine (iF10.calls t436 t460 t461 _ A42.out).mono ?_); rintro e w45 ⟨v462, rfl, ho0, hb⟩; have n0_ := Aside0.mk (Kd.R_below (by (with_reducible repeat (first | apply Kd.R_alloc | apply Kd.R_drewN | apply Kd.R_drew)); exact HO_4.out) hb); have n1_ := Aside0.mk (Kd.R_elder' (by (with_reducible repeat (first | apply Kd.R_alloc | apply Kd.R_drewN | apply Kd.R_drew)); exact HO_12.out) (Kd.R_base ho0) hb); have n2_ := Aside0.mk (Kd.R_lower (Kd.R_new' ho0 (Kd.R_lt (by (with_reducible repeat (first | apply Kd.R_alloc | apply Kd.R_drewN | apply Kd.R_drew)); exact HO_12.out))) (below_size (by repeat (first | (with_reducible first | exact HB.out | apply below_alloc | apply pw_below_drewN | apply below_drew1) | exact HB.out)))); have n3_ := Aside0.mk (below_step (by repeat (first | (with_reducible first | exact HB.out | apply below_alloc | apply pw_below_drewN | apply below_drew1) | exact HB.out)) hb); clear HO_4; clear HO_12; clear HB; have HO_4 := n0_; have HO_12 := n1_; have HO463 := n2_; have HB := n3_; clear n0_ n1_ n2_ n3_; (try clear hb); (try clear hb2); (try clear hk); (try clear hi); (try clear ho0)) | (go_at_call 17; (with_reducible refine (sF42.calls kj32 t436 t464 t465 _ A43.out).mono ?_); rintro e w46 ⟨v466, rfl, ho0, hb⟩; have n0_ := Aside0.mk (Kd.R_below (by (with_reducible repeat (first | apply Kd.R_alloc | apply Kd.R_drewN | apply Kd.R_drew)); exact HO_4.out) hb); have n1_ := Aside0.mk (Kd.R_elder' (by (with_reducible repeat (first | apply Kd.R_alloc | apply Kd.R_drewN | apply Kd.R_drew)); exact HO_12.out) (Kd.R_base ho0) hb); have n2_ := Aside0.mk (Kd.R_elder' (by (with_reducible repeat (first | apply Kd.R_alloc | apply Kd.R_drewN | apply Kd.R_drew)); exact HO463.out) (Kd.R_base ho0) hb); have n3_ := Aside0.mk (Kd.R_lower (Kd.R_new' (Kd.R_new' ho0 (Kd.R_lt (by (with_reducible repeat (first | apply Kd.R_alloc | apply Kd.R_drewN | apply Kd.R_drew)); exact HO_12.out))) (Kd.R_lt (by (with_reducible repeat (first | apply Kd.R_alloc | apply Kd.R_drewN | apply Kd.R_drew)); exact HO463.out))) (below_size (by repeat (first | (with_reducible first | exact HB.out | apply below_alloc | apply pw_below_drewN | apply below_drew1) | exact HB.out)))); have n4_ := Aside0.mk (below_step (by repeat (first | (with_reducible first | exact HB.out | apply below_alloc | apply pw_below_drewN | apply below_drew1) | exact HB.out)) hb); clear HO_4; clear HO_12; clear HO463; clear HB; have HO_4 := n0_; have HO_12 := n1_; have HO463 := n2_; have HO467 := n3_; have HB := n4_; clear n0_ n1_ n2_ n3_ n4_; (try clear hb); (try clear hb2); (try clear hk); (try clear hi); (try clear ho0))))
    (try simp only [Act.put, List.setIfInBounds_toArray, List.set_cons_zero, List.set_cons_succ])
    go_cut [151] from 100000 (fun v151 wc => ∃ (kq : Nat) (x151_43 : Bool), v151 = .bool x151_43 ∧ Aside0 (wF29.j3 kq l0 t436 t437 t438 t447 t451 t460 x151_43 = some true) ∧ Aside0 (kq ≤ kj32) ∧ Aside0 (Kd.R Kd.string 9 wc w.heap.size (fun _ => True) v439 t437) ∧ Aside0 (Kd.R (Kd.int .i64) 3 wc w.heap.size (fun k_ => some k_ ≠ (v462 : Value).ownBlock) v453 t451) ∧ Aside0 (Kd.R (Kd.int .i64) 3 wc w.heap.size (fun k_ => some k_ ≠ (v453 : Value).ownBlock) v462 t460) ∧ Aside0 (Below w.heap.size w wc))
    case first =>
     have H := HC44.out
     clear HC44
     by_cases c47 : (t461 != t465) = true
     ·
      rw [if_pos c47] at H
      have c47b0 : (t461 != t465) = true := c47
      (try (have c47b1 : decide (t461 = t465) = false := by simpa using c47))
      (try (have c47b2 : (t461 == t465) = false := by simpa using c47))
      (try (have c47b3 : ¬ (t461 = t465) := by simpa using c47))
      clear c47
      (first | rw [c47b0] | (simp only [i64_w, i32_w]; rw [c47b0]) | skip)
      have H' := Aside0.mk H
      clear H
      go_wp2
      repeat (go_quiet (fail); try go_wp2)
      go_meet
      case rel => exact ⟨_, (true), (by first | rfl | (simp; done) | (simp [*]; done)), H', ⟨by have := HJ6.out; have := HJ21.out; have := HJ32.out; first | omega | exact Nat.le_refl _⟩, ⟨by (with_reducible repeat (first | apply Kd.R_alloc | apply Kd.R_drewN | apply Kd.R_drew)); exact HO_4.out⟩, ⟨by (with_reducible repeat (first | apply Kd.R_alloc | apply Kd.R_drewN | apply Kd.R_drew)); exact Kd.R_mono HO_12.out (fun _ hk => hk.1.2)⟩, ⟨by (with_reducible repeat (first | apply Kd.R_alloc | apply Kd.R_drewN | apply Kd.R_drew)); exact Kd.R_mono HO463.out (fun _ hk => hk.1.2)⟩, ⟨by repeat (first | (with_reducible first | exact HB.out | apply below_alloc | apply pw_below_drewN | apply below_drew1) | exact HB.out)⟩⟩
     rw [if_neg c47] at H
     have c47b0 : (t461 != t465) = false := by simpa using c47
     (try (have c47b1 : decide (t461 = t465) = true := by simpa using c47))
     (try (have c47b2 : (t461 == t465) = true := by simpa using c47))
     clear c47
     (first | rw [c47b0] | (simp only [i64_w, i32_w]; rw [c47b0]) | skip)
     by_cases c48 : (t461 != t438) = true
     ·
      rw [if_pos c48] at H
      have c48b0 : (t461 != t438) = true := c48
      (try (have c48b1 : decide (t461 = t438) = false := by simpa using c48))
      (try (have c48b2 : (t461 == t438) = false := by simpa using c48))
      (try (have c48b3 : ¬ (t461 = t438) := by simpa using c48))
      clear c48
      have H' := Aside0.mk H
      clear H
      go_wp2
      repeat (go_quiet (fail); try go_wp2)
      go_meet
      case rel => exact ⟨_, (true), (by first | rfl | (simp; done) | (simp [*]; done)), H', ⟨by have := HJ6.out; have := HJ21.out; have := HJ32.out; first | omega | exact Nat.le_refl _⟩, ⟨by (with_reducible repeat (first | apply Kd.R_alloc | apply Kd.R_drewN | apply Kd.R_drew)); exact HO_4.out⟩, ⟨by (with_reducible repeat (first | apply Kd.R_alloc | apply Kd.R_drewN | apply Kd.R_drew)); exact Kd.R_mono HO_12.out (fun _ hk => hk.1.2)⟩, ⟨by (with_reducible repeat (first | apply Kd.R_alloc | apply Kd.R_drewN | apply Kd.R_drew)); exact Kd.R_mono HO463.out (fun _ hk => hk.1.2)⟩, ⟨by repeat (first | (with_reducible first | exact HB.out | apply below_alloc | apply pw_below_drewN | apply below_drew1) | exact HB.out)⟩⟩
     rw [if_neg c48] at H
     have c48b0 : (t461 != t438) = false := by simpa using c48
     (try (have c48b1 : decide (t461 = t438) = true := by simpa using c48))
     (try (have c48b2 : (t461 == t438) = true := by simpa using c48))
     clear c48
     replace H := Option.bind_eq_some_iff.mp H
     obtain ⟨t468, A490, H⟩ := H
     replace H : (wF29.j3 kj32 l0 t436 t437 t438 t447 t451 t460 (!t468)) = some true := H
     have A49 := Aside0.mk A490
     clear A490
     have H' := Aside0.mk H
     clear H
     obtain ⟨Ao50, co50, eo50⟩ := Kd.R_slice HO463.out
     subst eo50
     obtain ⟨Ao51, co51, eo51⟩ := Kd.R_slice HO467.out
     subst eo51
     go_wp2_with (first | (go_at_call 15; (with_reducible refine (wF31.calls kj32 _ _ t460 _ _ t464 t468 _ ?side1 ?side2 ?side3 ?side4 A49.out).mono ?_); (case side1 => repeat (first | exact (Kd.R_reads' HO463.out).2.2 | with_reducible first | apply cA_ | apply cN_ | apply cD_)); (case side2 => exact (Kd.R_reads' HO463.out).2.1); (case side3 => repeat (first | exact (Kd.R_reads' HO467.out).2.2 | with_reducible first | apply cA_ | apply cN_ | apply cD_)); (case side4 => exact (Kd.R_reads' HO467.out).2.1); rintro e w' ⟨rfl, ⟨nd, rfl⟩⟩; (try first | exact ⟨rfl, _, World.drewN_drewN _ _ _⟩ | exact ⟨rfl, _, Eq.trans (World.drewN_drewN _ _ _) (congrArg (World.drewN _) (Nat.add_assoc _ _ _))⟩)))
     repeat (go_quiet (first | (go_at_call 15; (with_reducible refine (wF31.calls kj32 _ _ t460 _ _ t464 t468 _ ?side1 ?side2 ?side3 ?side4 A49.out).mono ?_); (case side1 => repeat (first | exact (Kd.R_reads' HO463.out).2.2 | with_reducible first | apply cA_ | apply cN_ | apply cD_)); (case side2 => exact (Kd.R_reads' HO463.out).2.1); (case side3 => repeat (first | exact (Kd.R_reads' HO467.out).2.2 | with_reducible first | apply cA_ | apply cN_ | apply cD_)); (case side4 => exact (Kd.R_reads' HO467.out).2.1); rintro e w' ⟨rfl, ⟨nd, rfl⟩⟩; (try first | exact ⟨rfl, _, World.drewN_drewN _ _ _⟩ | exact ⟨rfl, _, Eq.trans (World.drewN_drewN _ _ _) (congrArg (World.drewN _) (Nat.add_assoc _ _ _))⟩))); try go_wp2_with (first | (go_at_call 15; (with_reducible refine (wF31.calls kj32 _ _ t460 _ _ t464 t468 _ ?side1 ?side2 ?side3 ?side4 A49.out).mono ?_); (case side1 => repeat (first | exact (Kd.R_reads' HO463.out).2.2 | with_reducible first | apply cA_ | apply cN_ | apply cD_)); (case side2 => exact (Kd.R_reads' HO463.out).2.1); (case side3 => repeat (first | exact (Kd.R_reads' HO467.out).2.2 | with_reducible first | apply cA_ | apply cN_ | apply cD_)); (case side4 => exact (Kd.R_reads' HO467.out).2.1); rintro e w' ⟨rfl, ⟨nd, rfl⟩⟩; (try first | exact ⟨rfl, _, World.drewN_drewN _ _ _⟩ | exact ⟨rfl, _, Eq.trans (World.drewN_drewN _ _ _) (congrArg (World.drewN _) (Nat.add_assoc _ _ _))⟩))))
     go_meet
     case rel => exact ⟨_, (!t468), (by first | rfl | (simp; done) | (simp [*]; done)), H', ⟨by have := HJ6.out; have := HJ21.out; have := HJ32.out; first | omega | exact Nat.le_refl _⟩, ⟨by (with_reducible repeat (first | apply Kd.R_alloc | apply Kd.R_drewN | apply Kd.R_drew)); exact HO_4.out⟩, ⟨by (with_reducible repeat (first | apply Kd.R_alloc | apply Kd.R_drewN | apply Kd.R_drew)); exact Kd.R_mono HO_12.out (fun _ hk => hk.1.2)⟩, ⟨by (with_reducible repeat (first | apply Kd.R_alloc | apply Kd.R_drewN | apply Kd.R_drew)); exact Kd.R_mono HO463.out (fun _ hk => hk.1.2)⟩, ⟨by repeat (first | (with_reducible first | exact HB.out | apply below_alloc | apply pw_below_drewN | apply below_drew1) | exact HB.out)⟩⟩
    clear HC44
    try clear c1
    try clear c2
    try clear p2
    try clear c3
    try clear c4
    try clear c11
    try clear c11b0
    try clear c11b1
    try clear c11b2
    try clear c13
    try clear c13b0
    try clear c13b1
    try clear c13b2
    try clear c19
    try clear c25
    try clear c25b0
    try clear c25b1
    try clear c26
    try clear c26b0
    try clear c26b1
    try clear c26b2
    try clear c27
    try clear c27b0
    try clear c27b1
    try clear c27b2
    try clear c28
    try clear c30
    try clear c36
    try clear c36b0
    try clear c36b1
    try clear c36b2
    try clear c37
    try clear c37b0
    try clear c37b1
    try clear c37b2
    try clear c41
    try clear c47
    try clear c47b0
    try clear c47b1
    try clear c47b2
    try clear c48
    try clear c48b0
    try clear c48b1
    try clear c48b2
    try clear p2
    obtain ⟨kq, x151_43, rfl, HA, HJ43, HO_4, HO_12, HO_16, HB⟩ := hcut
    cases kq with
    | zero => exact absurd HA.out (by simp [wF29.j3])
    | succ kj43 =>
     have H := HA.out
     clear HA
     simp only [wF29.j3] at H
     by_cases c52 : x151_43 = true
     ·
      subst c52
      replace H : (some false) = some true := by rw [if_pos rfl] at H; exact H
      exact absurd (Option.some.inj H) Bool.false_ne_true
     replace c52 := Bool.eq_false_iff.mpr c52
     subst c52
     replace H : ((iF7.f kj43 t436).bind fun bt469 => ((sF36.f kj43 t436).bind fun bt473 => (if (bt469.2 != bt473.2) = true then (wF29.j4 kj43 l0 t436 t437 t438 t447 t451 t460 bt469.1 true) else (if (bt469.2 != t438) = true then (wF29.j4 kj43 l0 t436 t437 t438 t447 t451 t460 bt469.1 true) else ((wF31.f kj43 bt469.1 bt473.1).bind fun t477 => (wF29.j4 kj43 l0 t436 t437 t438 t447 t451 t460 bt469.1 (!t477))))))) = some true := by rw [if_neg (show ¬ (false = true) by decide)] at H; exact H
     replace H := Option.bind_eq_some_iff.mp H
     obtain ⟨⟨t469, t470⟩, A530, H⟩ := H
     replace H : ((sF36.f kj43 t436).bind fun bt473 => (if (t470 != bt473.2) = true then (wF29.j4 kj43 l0 t436 t437 t438 t447 t451 t460 t469 true) else (if (t470 != t438) = true then (wF29.j4 kj43 l0 t436 t437 t438 t447 t451 t460 t469 true) else ((wF31.f kj43 t469 bt473.1).bind fun t477 => (wF29.j4 kj43 l0 t436 t437 t438 t447 t451 t460 t469 (!t477)))))) = some true := H
     have A53 := Aside0.mk A530
     clear A530
     replace H := Option.bind_eq_some_iff.mp H
     obtain ⟨⟨t473, t474⟩, A540, H⟩ := H
     replace H : (if (t470 != t474) = true then (wF29.j4 kj43 l0 t436 t437 t438 t447 t451 t460 t469 true) else (if (t470 != t438) = true then (wF29.j4 kj43 l0 t436 t437 t438 t447 t451 t460 t469 true) else ((wF31.f kj43 t469 t473).bind fun t477 => (wF29.j4 kj43 l0 t436 t437 t438 t447 t451 t460 t469 (!t477))))) = some true := H
     have A54 := Aside0.mk A540
     clear A540
     have HC55 := Aside0.mk H
     clear H
     go_upto_region 22 with (first | (go_at_call 18; (with_reducible refine (iF7.calls kj43 t436 t469 t470 _ A53.out).mono ?_); rintro e w56 ⟨v471, rfl, ho0, hb⟩; have n0_ := Aside0.mk (Kd.R_below (by (with_reducible repeat (first | apply Kd.R_alloc | apply Kd.R_drewN | apply Kd.R_drew)); exact HO_4.out) hb); have n1_ := Aside0.mk (Kd.R_elder' (by (with_reducible repeat (first | apply Kd.R_alloc | apply Kd.R_drewN | apply Kd.R_drew)); exact HO_12.out) (Kd.R_base ho0) hb); have n2_ := Aside0.mk (Kd.R_elder' (by (with_reducible repeat (first | apply Kd.R_alloc | apply Kd.R_drewN | apply Kd.R_drew)); exact HO_16.out) (Kd.R_base ho0) hb); have n3_ := Aside0.mk (Kd.R_lower (Kd.R_new' (Kd.R_new' ho0 (Kd.R_lt (by (with_reducible repeat (first | apply Kd.R_alloc | apply Kd.R_drewN | apply Kd.R_drew)); exact HO_12.out))) (Kd.R_lt (by (with_reducible repeat (first | apply Kd.R_alloc | apply Kd.R_drewN | apply Kd.R_drew)); exact HO_16.out))) (below_size (by repeat (first | (with_reducible first | exact HB.out | apply below_alloc | apply pw_below_drewN | apply below_drew1) | exact HB.out)))); have n4_ := Aside0.mk (below_step (by repeat (first | (with_reducible first | exact HB.out | apply below_alloc | apply pw_below_drewN | apply below_drew1) | exact HB.out)) hb); clear HO_4; clear HO_12; clear HO_16; clear HB; have HO_4 := n0_; have HO_12 := n1_; have HO_16 := n2_; have HO472 := n3_; have HB := n4_; clear n0_ n1_ n2_ n3_ n4_; (try clear hb); (try clear hb2); (try clear hk); (try clear hi); (try clear ho0)) | (go_at_call 19; (with_reducible refine (sF36.calls kj43 t436 t473 t474 _ A54.out).mono ?_); rintro e w57 ⟨v475, rfl, ho0, hb⟩; have n0_ := Aside0.mk (Kd.R_below (by (with_reducible repeat (first | apply Kd.R_alloc | apply Kd.R_drewN | apply Kd.R_drew)); exact HO_4.out) hb); have n1_ := Aside0.mk (Kd.R_elder' (by (with_reducible repeat (first | apply Kd.R_alloc | apply Kd.R_drewN | apply Kd.R_drew)); exact HO_12.out) (Kd.R_base ho0) hb); have n2_ := Aside0.mk (Kd.R_elder' (by (with_reducible repeat (first | apply Kd.R_alloc | apply Kd.R_drewN | apply Kd.R_drew)); exact HO_16.out) (Kd.R_base ho0) hb); have n3_ := Aside0.mk (Kd.R_elder' (by (with_reducible repeat (first | apply Kd.R_alloc | apply Kd.R_drewN | apply Kd.R_drew)); exact HO472.out) (Kd.R_base ho0) hb); have n4_ := Aside0.mk (Kd.R_lower (Kd.R_new' (Kd.R_new' (Kd.R_new' ho0 (Kd.R_lt (by (with_reducible repeat (first | apply Kd.R_alloc | apply Kd.R_drewN | apply Kd.R_drew)); exact HO_12.out))) (Kd.R_lt (by (with_reducible repeat (first | apply Kd.R_alloc | apply Kd.R_drewN | apply Kd.R_drew)); exact HO_16.out))) (Kd.R_lt (by (with_reducible repeat (first | apply Kd.R_alloc | apply Kd.R_drewN | apply Kd.R_drew)); exact HO472.out))) (below_size (by repeat (first | (with_reducible first | exact HB.out | apply below_alloc | apply pw_below_drewN | apply below_drew1) | exact HB.out)))); have n5_ := Aside0.mk (below_step (by repeat (first | (with_reducible first | exact HB.out | apply below_alloc | apply pw_below_drewN | apply below_drew1) | exact HB.out)) hb); clear HO_4; clear HO_12; clear HO_16; clear HO472; clear HB; have HO_4 := n0_; have HO_12 := n1_; have HO_16 := n2_; have HO472 := n3_; have HO476 := n4_; have HB := n5_; clear n0_ n1_ n2_ n3_ n4_ n5_; (try clear hb); (try clear hb2); (try clear hk); (try clear hi); (try clear ho0)))
     repeat (go_quiet (first | (go_at_call 18; (with_reducible refine (iF7.calls kj43 t436 t469 t470 _ A53.out).mono ?_); rintro e w56 ⟨v471, rfl, ho0, hb⟩; have n0_ := Aside0.mk (Kd.R_below (by (with_reducible repeat (first | apply Kd.R_alloc | apply Kd.R_drewN | apply Kd.R_drew)); exact HO_4.out) hb); have n1_ := Aside0.mk (Kd.R_elder' (by (with_reducible repeat (first | apply Kd.R_alloc | apply Kd.R_drewN | apply Kd.R_drew)); exact HO_12.out) (Kd.R_base ho0) hb); have n2_ := Aside0.mk (Kd.R_elder' (by (with_reducible repeat (first | apply Kd.R_alloc | apply Kd.R_drewN | apply Kd.R_drew)); exact HO_16.out) (Kd.R_base ho0) hb); have n3_ := Aside0.mk (Kd.R_lower (Kd.R_new' (Kd.R_new' ho0 (Kd.R_lt (by (with_reducible repeat (first | apply Kd.R_alloc | apply Kd.R_drewN | apply Kd.R_drew)); exact HO_12.out))) (Kd.R_lt (by (with_reducible repeat (first | apply Kd.R_alloc | apply Kd.R_drewN | apply Kd.R_drew)); exact HO_16.out))) (below_size (by repeat (first | (with_reducible first | exact HB.out | apply below_alloc | apply pw_below_drewN | apply below_drew1) | exact HB.out)))); have n4_ := Aside0.mk (below_step (by repeat (first | (with_reducible first | exact HB.out | apply below_alloc | apply pw_below_drewN | apply below_drew1) | exact HB.out)) hb); clear HO_4; clear HO_12; clear HO_16; clear HB; have HO_4 := n0_; have HO_12 := n1_; have HO_16 := n2_; have HO472 := n3_; have HB := n4_; clear n0_ n1_ n2_ n3_ n4_; (try clear hb); (try clear hb2); (try clear hk); (try clear hi); (try clear ho0)) | (go_at_call 19; (with_reducible refine (sF36.calls kj43 t436 t473 t474 _ A54.out).mono ?_); rintro e w57 ⟨v475, rfl, ho0, hb⟩; have n0_ := Aside0.mk (Kd.R_below (by (with_reducible repeat (first | apply Kd.R_alloc | apply Kd.R_drewN | apply Kd.R_drew)); exact HO_4.out) hb); have n1_ := Aside0.mk (Kd.R_elder' (by (with_reducible repeat (first | apply Kd.R_alloc | apply Kd.R_drewN | apply Kd.R_drew)); exact HO_12.out) (Kd.R_base ho0) hb); have n2_ := Aside0.mk (Kd.R_elder' (by (with_reducible repeat (first | apply Kd.R_alloc | apply Kd.R_drewN | apply Kd.R_drew)); exact HO_16.out) (Kd.R_base ho0) hb); have n3_ := Aside0.mk (Kd.R_elder' (by (with_reducible repeat (first | apply Kd.R_alloc | apply Kd.R_drewN | apply Kd.R_drew)); exact HO472.out) (Kd.R_base ho0) hb); have n4_ := Aside0.mk (Kd.R_lower (Kd.R_new' (Kd.R_new' (Kd.R_new' ho0 (Kd.R_lt (by (with_reducible repeat (first | apply Kd.R_alloc | apply Kd.R_drewN | apply Kd.R_drew)); exact HO_12.out))) (Kd.R_lt (by (with_reducible repeat (first | apply Kd.R_alloc | apply Kd.R_drewN | apply Kd.R_drew)); exact HO_16.out))) (Kd.R_lt (by (with_reducible repeat (first | apply Kd.R_alloc | apply Kd.R_drewN | apply Kd.R_drew)); exact HO472.out))) (below_size (by repeat (first | (with_reducible first | exact HB.out | apply below_alloc | apply pw_below_drewN | apply below_drew1) | exact HB.out)))); have n5_ := Aside0.mk (below_step (by repeat (first | (with_reducible first | exact HB.out | apply below_alloc | apply pw_below_drewN | apply below_drew1) | exact HB.out)) hb); clear HO_4; clear HO_12; clear HO_16; clear HO472; clear HB; have HO_4 := n0_; have HO_12 := n1_; have HO_16 := n2_; have HO472 := n3_; have HO476 := n4_; have HB := n5_; clear n0_ n1_ n2_ n3_ n4_ n5_; (try clear hb); (try clear hb2); (try clear hk); (try clear hi); (try clear ho0))); go_upto_region 22 with (first | (go_at_call 18; (with_reducible refine (iF7.calls kj43 t436 t469 t470 _ A53.out).mono ?_); rintro e w56 ⟨v471, rfl, ho0, hb⟩; have n0_ := Aside0.mk (Kd.R_below (by (with_reducible repeat (first | apply Kd.R_alloc | apply Kd.R_drewN | apply Kd.R_drew)); exact HO_4.out) hb); have n1_ := Aside0.mk (Kd.R_elder' (by (with_reducible repeat (first | apply Kd.R_alloc | apply Kd.R_drewN | apply Kd.R_drew)); exact HO_12.out) (Kd.R_base ho0) hb); have n2_ := Aside0.mk (Kd.R_elder' (by (with_reducible repeat (first | apply Kd.R_alloc | apply Kd.R_drewN | apply Kd.R_drew)); exact HO_16.out) (Kd.R_base ho0) hb); have n3_ := Aside0.mk (Kd.R_lower (Kd.R_new' (Kd.R_new' ho0 (Kd.R_lt (by (with_reducible repeat (first | apply Kd.R_alloc | apply Kd.R_drewN | apply Kd.R_drew)); exact HO_12.out))) (Kd.R_lt (by (with_reducible repeat (first | apply Kd.R_alloc | apply Kd.R_drewN | apply Kd.R_drew)); exact HO_16.out))) (below_size (by repeat (first | (with_reducible first | exact HB.out | apply below_alloc | apply pw_below_drewN | apply below_drew1) | exact HB.out)))); have n4_ := Aside0.mk (below_step (by repeat (first | (with_reducible first | exact HB.out | apply below_alloc | apply pw_below_drewN | apply below_drew1) | exact HB.out)) hb); clear HO_4; clear HO_12; clear HO_16; clear HB; have HO_4 := n0_; have HO_12 := n1_; have HO_16 := n2_; have HO472 := n3_; have HB := n4_; clear n0_ n1_ n2_ n3_ n4_; (try clear hb); (try clear hb2); (try clear hk); (try clear hi); (try clear ho0)) | (go_at_call 19; (with_reducible refine (sF36.calls kj43 t436 t473 t474 _ A54.out).mono ?_); rintro e w57 ⟨v475, rfl, ho0, hb⟩; have n0_ := Aside0.mk (Kd.R_below (by (with_reducible repeat (first | apply Kd.R_alloc | apply Kd.R_drewN | apply Kd.R_drew)); exact HO_4.out) hb); have n1_ := Aside0.mk (Kd.R_elder' (by (with_reducible repeat (first | apply Kd.R_alloc | apply Kd.R_drewN | apply Kd.R_drew)); exact HO_12.out) (Kd.R_base ho0) hb); have n2_ := Aside0.mk (Kd.R_elder' (by (with_reducible repeat (first | apply Kd.R_alloc | apply Kd.R_drewN | apply Kd.R_drew)); exact HO_16.out) (Kd.R_base ho0) hb); have n3_ := Aside0.mk (Kd.R_elder' (by (with_reducible repeat (first | apply Kd.R_alloc | apply Kd.R_drewN | apply Kd.R_drew)); exact HO472.out) (Kd.R_base ho0) hb); have n4_ := Aside0.mk (Kd.R_lower (Kd.R_new' (Kd.R_new' (Kd.R_new' ho0 (Kd.R_lt (by (with_reducible repeat (first | apply Kd.R_alloc | apply Kd.R_drewN | apply Kd.R_drew)); exact HO_12.out))) (Kd.R_lt (by (with_reducible repeat (first | apply Kd.R_alloc | apply Kd.R_drewN | apply Kd.R_drew)); exact HO_16.out))) (Kd.R_lt (by (with_reducible repeat (first | apply Kd.R_alloc | apply Kd.R_drewN | apply Kd.R_drew)); exact HO472.out))) (below_size (by repeat (first | (with_reducible first | exact HB.out | apply below_alloc | apply pw_below_drewN | apply below_drew1) | exact HB.out)))); have n5_ := Aside0.mk (below_step (by repeat (first | (with_reducible first | exact HB.out | apply below_alloc | apply pw_below_drewN | apply below_drew1) | exact HB.out)) hb); clear HO_4; clear HO_12; clear HO_16; clear HO472; clear HB; have HO_4 := n0_; have HO_12 := n1_; have HO_16 := n2_; have HO472 := n3_; have HO476 := n4_; have HB := n5_; clear n0_ n1_ n2_ n3_ n4_ n5_; (try clear hb); (try clear hb2); (try clear hk); (try clear hi); (try clear ho0))))
     (try simp only [Act.put, List.setIfInBounds_toArray, List.set_cons_zero, List.set_cons_succ])
     go_cut [175] from 100000 (fun v175 wc => ∃ (kq : Nat) (x175_54 : Bool), v175 = .bool x175_54 ∧ Aside0 (wF29.j4 kq l0 t436 t437 t438 t447 t451 t460 t469 x175_54 = some true) ∧ Aside0 (kq ≤ kj43) ∧ Aside0 (Kd.R Kd.string 9 wc w.heap.size (fun _ => True) v439 t437) ∧ Aside0 (Kd.R (Kd.int .i64) 3 wc w.heap.size (fun k_ => some k_ ≠ (v462 : Value).ownBlock ∧ some k_ ≠ (v471 : Value).ownBlock) v453 t451) ∧ Aside0 (Kd.R (Kd.int .i64) 3 wc w.heap.size (fun k_ => some k_ ≠ (v453 : Value).ownBlock ∧ some k_ ≠ (v471 : Value).ownBlock) v462 t460) ∧ Aside0 (Kd.R (Kd.int .i64) 3 wc w.heap.size (fun k_ => some k_ ≠ (v453 : Value).ownBlock ∧ some k_ ≠ (v462 : Value).ownBlock) v471 t469) ∧ Aside0 (Below w.heap.size w wc))
     case first =>
      have H := HC55.out
      clear HC55
      by_cases c58 : (t470 != t474) = true
      ·
       rw [if_pos c58] at H
       have c58b0 : (t470 != t474) = true := c58
       (try (have c58b1 : decide (t470 = t474) = false := by simpa using c58))
       (try (have c58b2 : (t470 == t474) = false := by simpa using c58))
       (try (have c58b3 : ¬ (t470 = t474) := by simpa using c58))
       clear c58
       (first | rw [c58b0] | (simp only [i64_w, i32_w]; rw [c58b0]) | skip)
       have H' := Aside0.mk H
       clear H
       go_wp2
       repeat (go_quiet (fail); try go_wp2)
       go_meet
       case rel => exact ⟨_, (true), (by first | rfl | (simp; done) | (simp [*]; done)), H', ⟨by have := HJ6.out; have := HJ21.out; have := HJ32.out; have := HJ43.out; first | omega | exact Nat.le_refl _⟩, ⟨by (with_reducible repeat (first | apply Kd.R_alloc | apply Kd.R_drewN | apply Kd.R_drew)); exact HO_4.out⟩, ⟨by (with_reducible repeat (first | apply Kd.R_alloc | apply Kd.R_drewN | apply Kd.R_drew)); exact Kd.R_mono HO_12.out (fun _ hk => ⟨hk.1.1, hk.1.2⟩)⟩, ⟨by (with_reducible repeat (first | apply Kd.R_alloc | apply Kd.R_drewN | apply Kd.R_drew)); exact Kd.R_mono HO_16.out (fun _ hk => ⟨hk.1.1, hk.1.2⟩)⟩, ⟨by (with_reducible repeat (first | apply Kd.R_alloc | apply Kd.R_drewN | apply Kd.R_drew)); exact Kd.R_mono HO472.out (fun _ hk => ⟨hk.1.1.2, hk.1.2⟩)⟩, ⟨by repeat (first | (with_reducible first | exact HB.out | apply below_alloc | apply pw_below_drewN | apply below_drew1) | exact HB.out)⟩⟩
      rw [if_neg c58] at H
      have c58b0 : (t470 != t474) = false := by simpa using c58
      (try (have c58b1 : decide (t470 = t474) = true := by simpa using c58))
      (try (have c58b2 : (t470 == t474) = true := by simpa using c58))
      clear c58
      (first | rw [c58b0] | (simp only [i64_w, i32_w]; rw [c58b0]) | skip)
      by_cases c59 : (t470 != t438) = true
      ·
       rw [if_pos c59] at H
       have c59b0 : (t470 != t438) = true := c59
       (try (have c59b1 : decide (t470 = t438) = false := by simpa using c59))
       (try (have c59b2 : (t470 == t438) = false := by simpa using c59))
       (try (have c59b3 : ¬ (t470 = t438) := by simpa using c59))
       clear c59
       have H' := Aside0.mk H
       clear H
       go_wp2
       repeat (go_quiet (fail); try go_wp2)
       go_meet
       case rel => exact ⟨_, (true), (by first | rfl | (simp; done) | (simp [*]; done)), H', ⟨by have := HJ6.out; have := HJ21.out; have := HJ32.out; have := HJ43.out; first | omega | exact Nat.le_refl _⟩, ⟨by (with_reducible repeat (first | apply Kd.R_alloc | apply Kd.R_drewN | apply Kd.R_drew)); exact HO_4.out⟩, ⟨by (with_reducible repeat (first | apply Kd.R_alloc | apply Kd.R_drewN | apply Kd.R_drew)); exact Kd.R_mono HO_12.out (fun _ hk => ⟨hk.1.1, hk.1.2⟩)⟩, ⟨by (with_reducible repeat (first | apply Kd.R_alloc | apply Kd.R_drewN | apply Kd.R_drew)); exact Kd.R_mono HO_16.out (fun _ hk => ⟨hk.1.1, hk.1.2⟩)⟩, ⟨by (with_reducible repeat (first | apply Kd.R_alloc | apply Kd.R_drewN | apply Kd.R_drew)); exact Kd.R_mono HO472.out (fun _ hk => ⟨hk.1.1.2, hk.1.2⟩)⟩, ⟨by repeat (first | (with_reducible first | exact HB.out | apply below_alloc | apply pw_below_drewN | apply below_drew1) | exact HB.out)⟩⟩
      rw [if_neg c59] at H
      have c59b0 : (t470 != t438) = false := by simpa using c59
      (try (have c59b1 : decide (t470 = t438) = true := by simpa using c59))
      (try (have c59b2 : (t470 == t438) = true := by simpa using c59))
      clear c59
      replace H := Option.bind_eq_some_iff.mp H
      obtain ⟨t477, A600, H⟩ := H
      replace H : (wF29.j4 kj43 l0 t436 t437 t438 t447 t451 t460 t469 (!t477)) = some true := H
      have A60 := Aside0.mk A600
      clear A600
      have H' := Aside0.mk H
      clear H
      obtain ⟨Ao61, co61, eo61⟩ := Kd.R_slice HO472.out
      subst eo61
      obtain ⟨Ao62, co62, eo62⟩ := Kd.R_slice HO476.out
      subst eo62
      go_wp2_with (first | (go_at_call 15; (with_reducible refine (wF31.calls kj43 _ _ t469 _ _ t473 t477 _ ?side1 ?side2 ?side3 ?side4 A60.out).mono ?_); (case side1 => repeat (first | exact (Kd.R_reads' HO472.out).2.2 | with_reducible first | apply cA_ | apply cN_ | apply cD_)); (case side2 => exact (Kd.R_reads' HO472.out).2.1); (case side3 => repeat (first | exact (Kd.R_reads' HO476.out).2.2 | with_reducible first | apply cA_ | apply cN_ | apply cD_)); (case side4 => exact (Kd.R_reads' HO476.out).2.1); rintro e w' ⟨rfl, ⟨nd, rfl⟩⟩; (try first | exact ⟨rfl, _, World.drewN_drewN _ _ _⟩ | exact ⟨rfl, _, Eq.trans (World.drewN_drewN _ _ _) (congrArg (World.drewN _) (Nat.add_assoc _ _ _))⟩)))
      repeat (go_quiet (first | (go_at_call 15; (with_reducible refine (wF31.calls kj43 _ _ t469 _ _ t473 t477 _ ?side1 ?side2 ?side3 ?side4 A60.out).mono ?_); (case side1 => repeat (first | exact (Kd.R_reads' HO472.out).2.2 | with_reducible first | apply cA_ | apply cN_ | apply cD_)); (case side2 => exact (Kd.R_reads' HO472.out).2.1); (case side3 => repeat (first | exact (Kd.R_reads' HO476.out).2.2 | with_reducible first | apply cA_ | apply cN_ | apply cD_)); (case side4 => exact (Kd.R_reads' HO476.out).2.1); rintro e w' ⟨rfl, ⟨nd, rfl⟩⟩; (try first | exact ⟨rfl, _, World.drewN_drewN _ _ _⟩ | exact ⟨rfl, _, Eq.trans (World.drewN_drewN _ _ _) (congrArg (World.drewN _) (Nat.add_assoc _ _ _))⟩))); try go_wp2_with (first | (go_at_call 15; (with_reducible refine (wF31.calls kj43 _ _ t469 _ _ t473 t477 _ ?side1 ?side2 ?side3 ?side4 A60.out).mono ?_); (case side1 => repeat (first | exact (Kd.R_reads' HO472.out).2.2 | with_reducible first | apply cA_ | apply cN_ | apply cD_)); (case side2 => exact (Kd.R_reads' HO472.out).2.1); (case side3 => repeat (first | exact (Kd.R_reads' HO476.out).2.2 | with_reducible first | apply cA_ | apply cN_ | apply cD_)); (case side4 => exact (Kd.R_reads' HO476.out).2.1); rintro e w' ⟨rfl, ⟨nd, rfl⟩⟩; (try first | exact ⟨rfl, _, World.drewN_drewN _ _ _⟩ | exact ⟨rfl, _, Eq.trans (World.drewN_drewN _ _ _) (congrArg (World.drewN _) (Nat.add_assoc _ _ _))⟩))))
      go_meet
      case rel => exact ⟨_, (!t477), (by first | rfl | (simp; done) | (simp [*]; done)), H', ⟨by have := HJ6.out; have := HJ21.out; have := HJ32.out; have := HJ43.out; first | omega | exact Nat.le_refl _⟩, ⟨by (with_reducible repeat (first | apply Kd.R_alloc | apply Kd.R_drewN | apply Kd.R_drew)); exact HO_4.out⟩, ⟨by (with_reducible repeat (first | apply Kd.R_alloc | apply Kd.R_drewN | apply Kd.R_drew)); exact Kd.R_mono HO_12.out (fun _ hk => ⟨hk.1.1, hk.1.2⟩)⟩, ⟨by (with_reducible repeat (first | apply Kd.R_alloc | apply Kd.R_drewN | apply Kd.R_drew)); exact Kd.R_mono HO_16.out (fun _ hk => ⟨hk.1.1, hk.1.2⟩)⟩, ⟨by (with_reducible repeat (first | apply Kd.R_alloc | apply Kd.R_drewN | apply Kd.R_drew)); exact Kd.R_mono HO472.out (fun _ hk => ⟨hk.1.1.2, hk.1.2⟩)⟩, ⟨by repeat (first | (with_reducible first | exact HB.out | apply below_alloc | apply pw_below_drewN | apply below_drew1) | exact HB.out)⟩⟩
     clear HC55
     try clear c1
     try clear c2
     try clear p2
     try clear c3
     try clear c4
     try clear c5
     try clear c11
     try clear c11b0
     try clear c11b1
     try clear c11b2
     try clear c13
     try clear c13b0
     try clear c13b1
     try clear c13b2
     try clear c19
     try clear c25
     try clear c25b0
     try clear c25b1
     try clear c26
     try clear c26b0
     try clear c26b1
     try clear c26b2
     try clear c27
     try clear c27b0
     try clear c27b1
     try clear c27b2
     try clear c28
     try clear c30
     try clear c36
     try clear c36b0
     try clear c36b1
     try clear c36b2
     try clear c37
     try clear c37b0
     try clear c37b1
     try clear c37b2
     try clear c41
     try clear c47
     try clear c47b0
     try clear c47b1
     try clear c47b2
     try clear c48
     try clear c48b0
     try clear c48b1
     try clear c48b2
     try clear c52
     try clear c58
     try clear c58b0
     try clear c58b1
     try clear c58b2
     try clear c59
     try clear c59b0
     try clear c59b1
     try clear c59b2
     try clear p2
     obtain ⟨kq, x175_54, rfl, HA, HJ54, HO_4, HO_12, HO_16, HO_20, HB⟩ := hcut
     cases kq with
     | zero => exact absurd HA.out (by simp [wF29.j4])
     | succ kj54 =>
      have H := HA.out
      clear HA
      simp only [wF29.j4] at H
      by_cases c63 : x175_54 = true
      ·
       subst c63
       replace H : (some false) = some true := by rw [if_pos rfl] at H; exact H
       exact absurd (Option.some.inj H) Bool.false_ne_true
      replace c63 := Bool.eq_false_iff.mpr c63
      subst c63
      replace H : ((sF40.f kj54 l0).bind fun bt478 => ((iF12.f kj54 bt478.1 bt478.2).bind fun bt480 => ((sF43.f kj54 bt478.1 bt478.2).bind fun bt484 => (if (bt480.2 != bt484.2) = true then (wF29.j5 kj54 t436 t437 t438 t447 t451 t460 t469 bt478.1 bt478.2 bt480.1 true) else ((wF31.f kj54 bt480.1 bt484.1).bind fun t488 => (wF29.j5 kj54 t436 t437 t438 t447 t451 t460 t469 bt478.1 bt478.2 bt480.1 (!t488))))))) = some true := by rw [if_neg (show ¬ (false = true) by decide)] at H; exact H
      replace H := Option.bind_eq_some_iff.mp H
      obtain ⟨⟨t478, t479⟩, A640, H⟩ := H
      replace H : ((iF12.f kj54 t478 t479).bind fun bt480 => ((sF43.f kj54 t478 t479).bind fun bt484 => (if (bt480.2 != bt484.2) = true then (wF29.j5 kj54 t436 t437 t438 t447 t451 t460 t469 t478 t479 bt480.1 true) else ((wF31.f kj54 bt480.1 bt484.1).bind fun t488 => (wF29.j5 kj54 t436 t437 t438 t447 t451 t460 t469 t478 t479 bt480.1 (!t488)))))) = some true := H
      have A64 := Aside0.mk A640
      clear A640
      replace H := Option.bind_eq_some_iff.mp H
      obtain ⟨⟨t480, t481⟩, A650, H⟩ := H
      replace H : ((sF43.f kj54 t478 t479).bind fun bt484 => (if (t481 != bt484.2) = true then (wF29.j5 kj54 t436 t437 t438 t447 t451 t460 t469 t478 t479 t480 true) else ((wF31.f kj54 t480 bt484.1).bind fun t488 => (wF29.j5 kj54 t436 t437 t438 t447 t451 t460 t469 t478 t479 t480 (!t488))))) = some true := H
      have A65 := Aside0.mk A650
      clear A650
      replace H := Option.bind_eq_some_iff.mp H
      obtain ⟨⟨t484, t485⟩, A660, H⟩ := H
      replace H : (if (t481 != t485) = true then (wF29.j5 kj54 t436 t437 t438 t447 t451 t460 t469 t478 t479 t480 true) else ((wF31.f kj54 t480 t484).bind fun t488 => (wF29.j5 kj54 t436 t437 t438 t447 t451 t460 t469 t478 t479 t480 (!t488)))) = some true := H
      have A66 := Aside0.mk A660
      clear A660
      have HC67 := Aside0.mk H
      clear H
      go_upto_region 27 with (first | (go_at_call 20; (with_reducible refine (sF40.calls kj54 _ _ l0 t478 t479 _ ?side1 HC0.out A64.out).mono ?_); (case side1 => repeat (first | exact (Kd.C_below HR0.out HB.out) | with_reducible first | apply cA_ | apply cN_ | apply cD_)); rintro e w68 ⟨rfl, hb⟩; have n0_ := Aside0.mk (Kd.R_below (by (with_reducible repeat (first | apply Kd.R_alloc | apply Kd.R_drewN | apply Kd.R_drew)); exact HO_4.out) hb); have n1_ := Aside0.mk (Kd.R_below (by (with_reducible repeat (first | apply Kd.R_alloc | apply Kd.R_drewN | apply Kd.R_drew)); exact HO_12.out) hb); have n2_ := Aside0.mk (Kd.R_below (by (with_reducible repeat (first | apply Kd.R_alloc | apply Kd.R_drewN | apply Kd.R_drew)); exact HO_16.out) hb); have n3_ := Aside0.mk (Kd.R_below (by (with_reducible repeat (first | apply Kd.R_alloc | apply Kd.R_drewN | apply Kd.R_drew)); exact HO_20.out) hb); have n4_ := Aside0.mk (below_step (by repeat (first | (with_reducible first | exact HB.out | apply below_alloc | apply pw_below_drewN | apply below_drew1) | exact HB.out)) hb); clear HO_4; clear HO_12; clear HO_16; clear HO_20; clear HB; have HO_4 := n0_; have HO_12 := n1_; have HO_16 := n2_; have HO_20 := n3_; have HB := n4_; clear n0_ n1_ n2_ n3_ n4_; (try clear hb); (try clear hb2); (try clear hk); (try clear hi)) | (go_at_call 21; (with_reducible refine (iF12.calls kj54 t478 t479 t480 t481 _ A65.out).mono ?_); rintro e w69 ⟨v482, rfl, ho0, hb⟩; have n0_ := Aside0.mk (Kd.R_below (by (with_reducible repeat (first | apply Kd.R_alloc | apply Kd.R_drewN | apply Kd.R_drew)); exact HO_4.out) hb); have n1_ := Aside0.mk (Kd.R_elder' (by (with_reducible repeat (first | apply Kd.R_alloc | apply Kd.R_drewN | apply Kd.R_drew)); exact HO_12.out) (Kd.R_base ho0) hb); have n2_ := Aside0.mk (Kd.R_elder' (by (with_reducible repeat (first | apply Kd.R_alloc | apply Kd.R_drewN | apply Kd.R_drew)); exact HO_16.out) (Kd.R_base ho0) hb); have n3_ := Aside0.mk (Kd.R_elder' (by (with_reducible repeat (first | apply Kd.R_alloc | apply Kd.R_drewN | apply Kd.R_drew)); exact HO_20.out) (Kd.R_base ho0) hb); have n4_ := Aside0.mk (Kd.R_lower (Kd.R_new' (Kd.R_new' (Kd.R_new' ho0 (Kd.R_lt (by (with_reducible repeat (first | apply Kd.R_alloc | apply Kd.R_drewN | apply Kd.R_drew)); exact HO_12.out))) (Kd.R_lt (by (with_reducible repeat (first | apply Kd.R_alloc | apply Kd.R_drewN | apply Kd.R_drew)); exact HO_16.out))) (Kd.R_lt (by (with_reducible repeat (first | apply Kd.R_alloc | apply Kd.R_drewN | apply Kd.R_drew)); exact HO_20.out))) (below_size (by repeat (first | (with_reducible first | exact HB.out | apply below_alloc | apply pw_below_drewN | apply below_drew1) | exact HB.out)))); have n5_ := Aside0.mk (below_step (by repeat (first | (with_reducible first | exact HB.out | apply below_alloc | apply pw_below_drewN | apply below_drew1) | exact HB.out)) hb); clear HO_4; clear HO_12; clear HO_16; clear HO_20; clear HB; have HO_4 := n0_; have HO_12 := n1_; have HO_16 := n2_; have HO_20 := n3_; have HO483 := n4_; have HB := n5_; clear n0_ n1_ n2_ n3_ n4_ n5_; (try clear hb); (try clear hb2); (try clear hk); (try clear hi); (try clear ho0)) | (go_at_call 22; (with_reducible refine (sF43.calls kj54 t478 t479 t484 t485 _ A66.out).mono ?_); rintro e w70 ⟨v486, rfl, ho0, hb⟩; have n0_ := Aside0.mk (Kd.R_below (by (with_reducible repeat (first | apply Kd.R_alloc | apply Kd.R_drewN | apply Kd.R_drew)); exact HO_4.out) hb); have n1_ := Aside0.mk (Kd.R_elder' (by (with_reducible repeat (first | apply Kd.R_alloc | apply Kd.R_drewN | apply Kd.R_drew)); exact HO_12.out) (Kd.R_base ho0) hb); have n2_ := Aside0.mk (Kd.R_elder' (by (with_reducible repeat (first | apply Kd.R_alloc | apply Kd.R_drewN | apply Kd.R_drew)); exact HO_16.out) (Kd.R_base ho0) hb); have n3_ := Aside0.mk (Kd.R_elder' (by (with_reducible repeat (first | apply Kd.R_alloc | apply Kd.R_drewN | apply Kd.R_drew)); exact HO_20.out) (Kd.R_base ho0) hb); have n4_ := Aside0.mk (Kd.R_elder' (by (with_reducible repeat (first | apply Kd.R_alloc | apply Kd.R_drewN | apply Kd.R_drew)); exact HO483.out) (Kd.R_base ho0) hb); have n5_ := Aside0.mk (Kd.R_lower (Kd.R_new' (Kd.R_new' (Kd.R_new' (Kd.R_new' ho0 (Kd.R_lt (by (with_reducible repeat (first | apply Kd.R_alloc | apply Kd.R_drewN | apply Kd.R_drew)); exact HO_12.out))) (Kd.R_lt (by (with_reducible repeat (first | apply Kd.R_alloc | apply Kd.R_drewN | apply Kd.R_drew)); exact HO_16.out))) (Kd.R_lt (by (with_reducible repeat (first | apply Kd.R_alloc | apply Kd.R_drewN | apply Kd.R_drew)); exact HO_20.out))) (Kd.R_lt (by (with_reducible repeat (first | apply Kd.R_alloc | apply Kd.R_drewN | apply Kd.R_drew)); exact HO483.out))) (below_size (by repeat (first | (with_reducible first | exact HB.out | apply below_alloc | apply pw_below_drewN | apply below_drew1) | exact HB.out)))); have n6_ := Aside0.mk (below_step (by repeat (first | (with_reducible first | exact HB.out | apply below_alloc | apply pw_below_drewN | apply below_drew1) | exact HB.out)) hb); clear HO_4; clear HO_12; clear HO_16; clear HO_20; clear HO483; clear HB; have HO_4 := n0_; have HO_12 := n1_; have HO_16 := n2_; have HO_20 := n3_; have HO483 := n4_; have HO487 := n5_; have HB := n6_; clear n0_ n1_ n2_ n3_ n4_ n5_ n6_; (try clear hb); (try clear hb2); (try clear hk); (try clear hi); (try clear ho0)))
      repeat (go_quiet (first | (go_at_call 20; (with_reducible refine (sF40.calls kj54 _ _ l0 t478 t479 _ ?side1 HC0.out A64.out).mono ?_); (case side1 => repeat (first | exact (Kd.C_below HR0.out HB.out) | with_reducible first | apply cA_ | apply cN_ | apply cD_)); rintro e w68 ⟨rfl, hb⟩; have n0_ := Aside0.mk (Kd.R_below (by (with_reducible repeat (first | apply Kd.R_alloc | apply Kd.R_drewN | apply Kd.R_drew)); exact HO_4.out) hb); have n1_ := Aside0.mk (Kd.R_below (by (with_reducible repeat (first | apply Kd.R_alloc | apply Kd.R_drewN | apply Kd.R_drew)); exact HO_12.out) hb); have n2_ := Aside0.mk (Kd.R_below (by (with_reducible repeat (first | apply Kd.R_alloc | apply Kd.R_drewN | apply Kd.R_drew)); exact HO_16.out) hb); have n3_ := Aside0.mk (Kd.R_below (by (with_reducible repeat (first | apply Kd.R_alloc | apply Kd.R_drewN | apply Kd.R_drew)); exact HO_20.out) hb); have n4_ := Aside0.mk (below_step (by repeat (first | (with_reducible first | exact HB.out | apply below_alloc | apply pw_below_drewN | apply below_drew1) | exact HB.out)) hb); clear HO_4; clear HO_12; clear HO_16; clear HO_20; clear HB; have HO_4 := n0_; have HO_12 := n1_; have HO_16 := n2_; have HO_20 := n3_; have HB := n4_; clear n0_ n1_ n2_ n3_ n4_; (try clear hb); (try clear hb2); (try clear hk); (try clear hi)) | (go_at_call 21; (with_reducible refine (iF12.calls kj54 t478 t479 t480 t481 _ A65.out).mono ?_); rintro e w69 ⟨v482, rfl, ho0, hb⟩; have n0_ := Aside0.mk (Kd.R_below (by (with_reducible repeat (first | apply Kd.R_alloc | apply Kd.R_drewN | apply Kd.R_drew)); exact HO_4.out) hb); have n1_ := Aside0.mk (Kd.R_elder' (by (with_reducible repeat (first | apply Kd.R_alloc | apply Kd.R_drewN | apply Kd.R_drew)); exact HO_12.out) (Kd.R_base ho0) hb); have n2_ := Aside0.mk (Kd.R_elder' (by (with_reducible repeat (first | apply Kd.R_alloc | apply Kd.R_drewN | apply Kd.R_drew)); exact HO_16.out) (Kd.R_base ho0) hb); have n3_ := Aside0.mk (Kd.R_elder' (by (with_reducible repeat (first | apply Kd.R_alloc | apply Kd.R_drewN | apply Kd.R_drew)); exact HO_20.out) (Kd.R_base ho0) hb); have n4_ := Aside0.mk (Kd.R_lower (Kd.R_new' (Kd.R_new' (Kd.R_new' ho0 (Kd.R_lt (by (with_reducible repeat (first | apply Kd.R_alloc | apply Kd.R_drewN | apply Kd.R_drew)); exact HO_12.out))) (Kd.R_lt (by (with_reducible repeat (first | apply Kd.R_alloc | apply Kd.R_drewN | apply Kd.R_drew)); exact HO_16.out))) (Kd.R_lt (by (with_reducible repeat (first | apply Kd.R_alloc | apply Kd.R_drewN | apply Kd.R_drew)); exact HO_20.out))) (below_size (by repeat (first | (with_reducible first | exact HB.out | apply below_alloc | apply pw_below_drewN | apply below_drew1) | exact HB.out)))); have n5_ := Aside0.mk (below_step (by repeat (first | (with_reducible first | exact HB.out | apply below_alloc | apply pw_below_drewN | apply below_drew1) | exact HB.out)) hb); clear HO_4; clear HO_12; clear HO_16; clear HO_20; clear HB; have HO_4 := n0_; have HO_12 := n1_; have HO_16 := n2_; have HO_20 := n3_; have HO483 := n4_; have HB := n5_; clear n0_ n1_ n2_ n3_ n4_ n5_; (try clear hb); (try clear hb2); (try clear hk); (try clear hi); (try clear ho0)) | (go_at_call 22; (with_reducible refine (sF43.calls kj54 t478 t479 t484 t485 _ A66.out).mono ?_); rintro e w70 ⟨v486, rfl, ho0, hb⟩; have n0_ := Aside0.mk (Kd.R_below (by (with_reducible repeat (first | apply Kd.R_alloc | apply Kd.R_drewN | apply Kd.R_drew)); exact HO_4.out) hb); have n1_ := Aside0.mk (Kd.R_elder' (by (with_reducible repeat (first | apply Kd.R_alloc | apply Kd.R_drewN | apply Kd.R_drew)); exact HO_12.out) (Kd.R_base ho0) hb); have n2_ := Aside0.mk (Kd.R_elder' (by (with_reducible repeat (first | apply Kd.R_alloc | apply Kd.R_drewN | apply Kd.R_drew)); exact HO_16.out) (Kd.R_base ho0) hb); have n3_ := Aside0.mk (Kd.R_elder' (by (with_reducible repeat (first | apply Kd.R_alloc | apply Kd.R_drewN | apply Kd.R_drew)); exact HO_20.out) (Kd.R_base ho0) hb); have n4_ := Aside0.mk (Kd.R_elder' (by (with_reducible repeat (first | apply Kd.R_alloc | apply Kd.R_drewN | apply Kd.R_drew)); exact HO483.out) (Kd.R_base ho0) hb); have n5_ := Aside0.mk (Kd.R_lower (Kd.R_new' (Kd.R_new' (Kd.R_new' (Kd.R_new' ho0 (Kd.R_lt (by (with_reducible repeat (first | apply Kd.R_alloc | apply Kd.R_drewN | apply Kd.R_drew)); exact HO_12.out))) (Kd.R_lt (by (with_reducible repeat (first | apply Kd.R_alloc | apply Kd.R_drewN | apply Kd.R_drew)); exact HO_16.out))) (Kd.R_lt (by (with_reducible repeat (first | apply Kd.R_alloc | apply Kd.R_drewN | apply Kd.R_drew)); exact HO_20.out))) (Kd.R_lt (by (with_reducible repeat (first | apply Kd.R_alloc | apply Kd.R_drewN | apply Kd.R_drew)); exact HO483.out))) (below_size (by repeat (first | (with_reducible first | exact HB.out | apply below_alloc | apply pw_below_drewN | apply below_drew1) | exact HB.out)))); have n6_ := Aside0.mk (below_step (by repeat (first | (with_reducible first | exact HB.out | apply below_alloc | apply pw_below_drewN | apply below_drew1) | exact HB.out)) hb); clear HO_4; clear HO_12; clear HO_16; clear HO_20; clear HO483; clear HB; have HO_4 := n0_; have HO_12 := n1_; have HO_16 := n2_; have HO_20 := n3_; have HO483 := n4_; have HO487 := n5_; have HB := n6_; clear n0_ n1_ n2_ n3_ n4_ n5_ n6_; (try clear hb); (try clear hb2); (try clear hk); (try clear hi); (try clear ho0))); go_upto_region 27 with (first | (go_at_call 20; (with_reducible refine (sF40.calls kj54 _ _ l0 t478 t479 _ ?side1 HC0.out A64.out).mono ?_); (case side1 => repeat (first | exact (Kd.C_below HR0.out HB.out) | with_reducible first | apply cA_ | apply cN_ | apply cD_)); rintro e w68 ⟨rfl, hb⟩; have n0_ := Aside0.mk (Kd.R_below (by (with_reducible repeat (first | apply Kd.R_alloc | apply Kd.R_drewN | apply Kd.R_drew)); exact HO_4.out) hb); have n1_ := Aside0.mk (Kd.R_below (by (with_reducible repeat (first | apply Kd.R_alloc | apply Kd.R_drewN | apply Kd.R_drew)); exact HO_12.out) hb); have n2_ := Aside0.mk (Kd.R_below (by (with_reducible repeat (first | apply Kd.R_alloc | apply Kd.R_drewN | apply Kd.R_drew)); exact HO_16.out) hb); have n3_ := Aside0.mk (Kd.R_below (by (with_reducible repeat (first | apply Kd.R_alloc | apply Kd.R_drewN | apply Kd.R_drew)); exact HO_20.out) hb); have n4_ := Aside0.mk (below_step (by repeat (first | (with_reducible first | exact HB.out | apply below_alloc | apply pw_below_drewN | apply below_drew1) | exact HB.out)) hb); clear HO_4; clear HO_12; clear HO_16; clear HO_20; clear HB; have HO_4 := n0_; have HO_12 := n1_; have HO_16 := n2_; have HO_20 := n3_; have HB := n4_; clear n0_ n1_ n2_ n3_ n4_; (try clear hb); (try clear hb2); (try clear hk); (try clear hi)) | (go_at_call 21; (with_reducible refine (iF12.calls kj54 t478 t479 t480 t481 _ A65.out).mono ?_); rintro e w69 ⟨v482, rfl, ho0, hb⟩; have n0_ := Aside0.mk (Kd.R_below (by (with_reducible repeat (first | apply Kd.R_alloc | apply Kd.R_drewN | apply Kd.R_drew)); exact HO_4.out) hb); have n1_ := Aside0.mk (Kd.R_elder' (by (with_reducible repeat (first | apply Kd.R_alloc | apply Kd.R_drewN | apply Kd.R_drew)); exact HO_12.out) (Kd.R_base ho0) hb); have n2_ := Aside0.mk (Kd.R_elder' (by (with_reducible repeat (first | apply Kd.R_alloc | apply Kd.R_drewN | apply Kd.R_drew)); exact HO_16.out) (Kd.R_base ho0) hb); have n3_ := Aside0.mk (Kd.R_elder' (by (with_reducible repeat (first | apply Kd.R_alloc | apply Kd.R_drewN | apply Kd.R_drew)); exact HO_20.out) (Kd.R_base ho0) hb); have n4_ := Aside0.mk (Kd.R_lower (Kd.R_new' (Kd.R_new' (Kd.R_new' ho0 (Kd.R_lt (by (with_reducible repeat (first | apply Kd.R_alloc | apply Kd.R_drewN | apply Kd.R_drew)); exact HO_12.out))) (Kd.R_lt (by (with_reducible repeat (first | apply Kd.R_alloc | apply Kd.R_drewN | apply Kd.R_drew)); exact HO_16.out))) (Kd.R_lt (by (with_reducible repeat (first | apply Kd.R_alloc | apply Kd.R_drewN | apply Kd.R_drew)); exact HO_20.out))) (below_size (by repeat (first | (with_reducible first | exact HB.out | apply below_alloc | apply pw_below_drewN | apply below_drew1) | exact HB.out)))); have n5_ := Aside0.mk (below_step (by repeat (first | (with_reducible first | exact HB.out | apply below_alloc | apply pw_below_drewN | apply below_drew1) | exact HB.out)) hb); clear HO_4; clear HO_12; clear HO_16; clear HO_20; clear HB; have HO_4 := n0_; have HO_12 := n1_; have HO_16 := n2_; have HO_20 := n3_; have HO483 := n4_; have HB := n5_; clear n0_ n1_ n2_ n3_ n4_ n5_; (try clear hb); (try clear hb2); (try clear hk); (try clear hi); (try clear ho0)) | (go_at_call 22; (with_reducible refine (sF43.calls kj54 t478 t479 t484 t485 _ A66.out).mono ?_); rintro e w70 ⟨v486, rfl, ho0, hb⟩; have n0_ := Aside0.mk (Kd.R_below (by (with_reducible repeat (first | apply Kd.R_alloc | apply Kd.R_drewN | apply Kd.R_drew)); exact HO_4.out) hb); have n1_ := Aside0.mk (Kd.R_elder' (by (with_reducible repeat (first | apply Kd.R_alloc | apply Kd.R_drewN | apply Kd.R_drew)); exact HO_12.out) (Kd.R_base ho0) hb); have n2_ := Aside0.mk (Kd.R_elder' (by (with_reducible repeat (first | apply Kd.R_alloc | apply Kd.R_drewN | apply Kd.R_drew)); exact HO_16.out) (Kd.R_base ho0) hb); have n3_ := Aside0.mk (Kd.R_elder' (by (with_reducible repeat (first | apply Kd.R_alloc | apply Kd.R_drewN | apply Kd.R_drew)); exact HO_20.out) (Kd.R_base ho0) hb); have n4_ := Aside0.mk (Kd.R_elder' (by (with_reducible repeat (first | apply Kd.R_alloc | apply Kd.R_drewN | apply Kd.R_drew)); exact HO483.out) (Kd.R_base ho0) hb); have n5_ := Aside0.mk (Kd.R_lower (Kd.R_new' (Kd.R_new' (Kd.R_new' (Kd.R_new' ho0 (Kd.R_lt (by (with_reducible repeat (first | apply Kd.R_alloc | apply Kd.R_drewN | apply Kd.R_drew)); exact HO_12.out))) (Kd.R_lt (by (with_reducible repeat (first | apply Kd.R_alloc | apply Kd.R_drewN | apply Kd.R_drew)); exact HO_16.out))) (Kd.R_lt (by (with_reducible repeat (first | apply Kd.R_alloc | apply Kd.R_drewN | apply Kd.R_drew)); exact HO_20.out))) (Kd.R_lt (by (with_reducible repeat (first | apply Kd.R_alloc | apply Kd.R_drewN | apply Kd.R_drew)); exact HO483.out))) (below_size (by repeat (first | (with_reducible first | exact HB.out | apply below_alloc | apply pw_below_drewN | apply below_drew1) | exact HB.out)))); have n6_ := Aside0.mk (below_step (by repeat (first | (with_reducible first | exact HB.out | apply below_alloc | apply pw_below_drewN | apply below_drew1) | exact HB.out)) hb); clear HO_4; clear HO_12; clear HO_16; clear HO_20; clear HO483; clear HB; have HO_4 := n0_; have HO_12 := n1_; have HO_16 := n2_; have HO_20 := n3_; have HO483 := n4_; have HO487 := n5_; have HB := n6_; clear n0_ n1_ n2_ n3_ n4_ n5_ n6_; (try clear hb); (try clear hb2); (try clear hk); (try clear hi); (try clear ho0))))
      (try simp only [Act.put, List.setIfInBounds_toArray, List.set_cons_zero, List.set_cons_succ])
      go_cut [201] from 100000 (fun v201 wc => ∃ (kq : Nat) (x201_66 : Bool), v201 = .bool x201_66 ∧ Aside0 (wF29.j5 kq t436 t437 t438 t447 t451 t460 t469 t478 t479 t480 x201_66 = some true) ∧ Aside0 (kq ≤ kj54) ∧ Aside0 (Kd.R Kd.string 9 wc w.heap.size (fun _ => True) v439 t437) ∧ Aside0 (Kd.R (Kd.int .i64) 3 wc w.heap.size (fun k_ => some k_ ≠ (v462 : Value).ownBlock ∧ some k_ ≠ (v471 : Value).ownBlock ∧ some k_ ≠ (v482 : Value).ownBlock) v453 t451) ∧ Aside0 (Kd.R (Kd.int .i64) 3 wc w.heap.size (fun k_ => some k_ ≠ (v453 : Value).ownBlock ∧ some k_ ≠ (v471 : Value).ownBlock ∧ some k_ ≠ (v482 : Value).ownBlock) v462 t460) ∧ Aside0 (Kd.R (Kd.int .i64) 3 wc w.heap.size (fun k_ => some k_ ≠ (v453 : Value).ownBlock ∧ some k_ ≠ (v462 : Value).ownBlock ∧ some k_ ≠ (v482 : Value).ownBlock) v471 t469) ∧ Aside0 (Kd.R (Kd.int .i64) 3 wc w.heap.size (fun k_ => some k_ ≠ (v453 : Value).ownBlock ∧ some k_ ≠ (v462 : Value).ownBlock ∧ some k_ ≠ (v471 : Value).ownBlock) v482 t480) ∧ Aside0 (Below w.heap.size w wc))
      case first =>
       have H := HC67.out
       clear HC67
       by_cases c71 : (t481 != t485) = true
       ·
        rw [if_pos c71] at H
        have c71b0 : (t481 != t485) = true := c71
        (try (have c71b1 : decide (t481 = t485) = false := by simpa using c71))
        (try (have c71b2 : (t481 == t485) = false := by simpa using c71))
        (try (have c71b3 : ¬ (t481 = t485) := by simpa using c71))
        clear c71
        (first | rw [c71b0] | (simp only [i64_w, i32_w]; rw [c71b0]) | skip)
        have H' := Aside0.mk H
        clear H
        go_wp2
        repeat (go_quiet (fail); try go_wp2)
        go_meet
        case rel => exact ⟨_, (true), (by first | rfl | (simp; done) | (simp [*]; done)), H', ⟨by have := HJ6.out; have := HJ21.out; have := HJ32.out; have := HJ43.out; have := HJ54.out; first | omega | exact Nat.le_refl _⟩, ⟨by (with_reducible repeat (first | apply Kd.R_alloc | apply Kd.R_drewN | apply Kd.R_drew)); exact HO_4.out⟩, ⟨by (with_reducible repeat (first | apply Kd.R_alloc | apply Kd.R_drewN | apply Kd.R_drew)); exact Kd.R_mono HO_12.out (fun _ hk => ⟨hk.1.1.1, ⟨hk.1.1.2, hk.1.2⟩⟩)⟩, ⟨by (with_reducible repeat (first | apply Kd.R_alloc | apply Kd.R_drewN | apply Kd.R_drew)); exact Kd.R_mono HO_16.out (fun _ hk => ⟨hk.1.1.1, ⟨hk.1.1.2, hk.1.2⟩⟩)⟩, ⟨by (with_reducible repeat (first | apply Kd.R_alloc | apply Kd.R_drewN | apply Kd.R_drew)); exact Kd.R_mono HO_20.out (fun _ hk => ⟨hk.1.1.1, ⟨hk.1.1.2, hk.1.2⟩⟩)⟩, ⟨by (with_reducible repeat (first | apply Kd.R_alloc | apply Kd.R_drewN | apply Kd.R_drew)); exact Kd.R_mono HO483.out (fun _ hk => ⟨hk.1.1.1.2, ⟨hk.1.1.2, hk.1.2⟩⟩)⟩, ⟨by repeat (first | (with_reducible first | exact HB.out | apply below_alloc | apply pw_below_drewN | apply below_drew1) | exact HB.out)⟩⟩
       rw [if_neg c71] at H
       have c71b0 : (t481 != t485) = false := by simpa using c71
       (try (have c71b1 : decide (t481 = t485) = true := by simpa using c71))
       (try (have c71b2 : (t481 == t485) = true := by simpa using c71))
       clear c71
       (first | rw [c71b0] | (simp only [i64_w, i32_w]; rw [c71b0]) | skip)
       replace H := Option.bind_eq_some_iff.mp H
       obtain ⟨t488, A720, H⟩ := H
       replace H : (wF29.j5 kj54 t436 t437 t438 t447 t451 t460 t469 t478 t479 t480 (!t488)) = some true := H
       have A72 := Aside0.mk A720
       clear A720
       have H' := Aside0.mk H
       clear H
       obtain ⟨Ao73, co73, eo73⟩ := Kd.R_slice HO483.out
       subst eo73
       obtain ⟨Ao74, co74, eo74⟩ := Kd.R_slice HO487.out
       subst eo74
       go_wp2_with (first | (go_at_call 15; (with_reducible refine (wF31.calls kj54 _ _ t480 _ _ t484 t488 _ ?side1 ?side2 ?side3 ?side4 A72.out).mono ?_); (case side1 => repeat (first | exact (Kd.R_reads' HO483.out).2.2 | with_reducible first | apply cA_ | apply cN_ | apply cD_)); (case side2 => exact (Kd.R_reads' HO483.out).2.1); (case side3 => repeat (first | exact (Kd.R_reads' HO487.out).2.2 | with_reducible first | apply cA_ | apply cN_ | apply cD_)); (case side4 => exact (Kd.R_reads' HO487.out).2.1); rintro e w' ⟨rfl, ⟨nd, rfl⟩⟩; (try first | exact ⟨rfl, _, World.drewN_drewN _ _ _⟩ | exact ⟨rfl, _, Eq.trans (World.drewN_drewN _ _ _) (congrArg (World.drewN _) (Nat.add_assoc _ _ _))⟩)))
       repeat (go_quiet (first | (go_at_call 15; (with_reducible refine (wF31.calls kj54 _ _ t480 _ _ t484 t488 _ ?side1 ?side2 ?side3 ?side4 A72.out).mono ?_); (case side1 => repeat (first | exact (Kd.R_reads' HO483.out).2.2 | with_reducible first | apply cA_ | apply cN_ | apply cD_)); (case side2 => exact (Kd.R_reads' HO483.out).2.1); (case side3 => repeat (first | exact (Kd.R_reads' HO487.out).2.2 | with_reducible first | apply cA_ | apply cN_ | apply cD_)); (case side4 => exact (Kd.R_reads' HO487.out).2.1); rintro e w' ⟨rfl, ⟨nd, rfl⟩⟩; (try first | exact ⟨rfl, _, World.drewN_drewN _ _ _⟩ | exact ⟨rfl, _, Eq.trans (World.drewN_drewN _ _ _) (congrArg (World.drewN _) (Nat.add_assoc _ _ _))⟩))); try go_wp2_with (first | (go_at_call 15; (with_reducible refine (wF31.calls kj54 _ _ t480 _ _ t484 t488 _ ?side1 ?side2 ?side3 ?side4 A72.out).mono ?_); (case side1 => repeat (first | exact (Kd.R_reads' HO483.out).2.2 | with_reducible first | apply cA_ | apply cN_ | apply cD_)); (case side2 => exact (Kd.R_reads' HO483.out).2.1); (case side3 => repeat (first | exact (Kd.R_reads' HO487.out).2.2 | with_reducible first | apply cA_ | apply cN_ | apply cD_)); (case side4 => exact (Kd.R_reads' HO487.out).2.1); rintro e w' ⟨rfl, ⟨nd, rfl⟩⟩; (try first | exact ⟨rfl, _, World.drewN_drewN _ _ _⟩ | exact ⟨rfl, _, Eq.trans (World.drewN_drewN _ _ _) (congrArg (World.drewN _) (Nat.add_assoc _ _ _))⟩))))
       go_meet
       case rel => exact ⟨_, (!t488), (by first | rfl | (simp; done) | (simp [*]; done)), H', ⟨by have := HJ6.out; have := HJ21.out; have := HJ32.out; have := HJ43.out; have := HJ54.out; first | omega | exact Nat.le_refl _⟩, ⟨by (with_reducible repeat (first | apply Kd.R_alloc | apply Kd.R_drewN | apply Kd.R_drew)); exact HO_4.out⟩, ⟨by (with_reducible repeat (first | apply Kd.R_alloc | apply Kd.R_drewN | apply Kd.R_drew)); exact Kd.R_mono HO_12.out (fun _ hk => ⟨hk.1.1.1, ⟨hk.1.1.2, hk.1.2⟩⟩)⟩, ⟨by (with_reducible repeat (first | apply Kd.R_alloc | apply Kd.R_drewN | apply Kd.R_drew)); exact Kd.R_mono HO_16.out (fun _ hk => ⟨hk.1.1.1, ⟨hk.1.1.2, hk.1.2⟩⟩)⟩, ⟨by (with_reducible repeat (first | apply Kd.R_alloc | apply Kd.R_drewN | apply Kd.R_drew)); exact Kd.R_mono HO_20.out (fun _ hk => ⟨hk.1.1.1, ⟨hk.1.1.2, hk.1.2⟩⟩)⟩, ⟨by (with_reducible repeat (first | apply Kd.R_alloc | apply Kd.R_drewN | apply Kd.R_drew)); exact Kd.R_mono HO483.out (fun _ hk => ⟨hk.1.1.1.2, ⟨hk.1.1.2, hk.1.2⟩⟩)⟩, ⟨by repeat (first | (with_reducible first | exact HB.out | apply below_alloc | apply pw_below_drewN | apply below_drew1) | exact HB.out)⟩⟩
      clear HC67
      try clear c1
      try clear c2
      try clear p2
      try clear c3
      try clear c4
      try clear c5
      try clear c6
      try clear c7
      try clear c11
      try clear c11b0
      try clear c11b1
      try clear c11b2
      try clear c13
      try clear c13b0
      try clear c13b1
      try clear c13b2
      try clear c19
      try clear c25
      try clear c25b0
      try clear c25b1
      try clear c26
      try clear c26b0
      try clear c26b1
      try clear c26b2
      try clear c27
      try clear c27b0
      try clear c27b1
      try clear c27b2
      try clear c28
      try clear c30
      try clear c36
      try clear c36b0
      try clear c36b1
      try clear c36b2
      try clear c37
      try clear c37b0
      try clear c37b1
      try clear c37b2
      try clear c41
      try clear c47
      try clear c47b0
      try clear c47b1
      try clear c47b2
      try clear c48
      try clear c48b0
      try clear c48b1
      try clear c48b2
      try clear c52
      try clear c58
      try clear c58b0
      try clear c58b1
      try clear c58b2
      try clear c59
      try clear c59b0
      try clear c59b1
      try clear c59b2
      try clear c63
      try clear c71
      try clear c71b0
      try clear c71b1
      try clear c71b2
      try clear p2
      obtain ⟨kq, x201_66, rfl, HA, HJ66, HO_4, HO_12, HO_16, HO_20, HO_26, HB⟩ := hcut
      cases kq with
      | zero => exact absurd HA.out (by simp [wF29.j5])
      | succ kj66 =>
       have H := HA.out
       clear HA
       simp only [wF29.j5] at H
       by_cases c75 : x201_66 = true
       ·
        subst c75
        replace H : (some false) = some true := by rw [if_pos rfl] at H; exact H
        exact absurd (Option.some.inj H) Bool.false_ne_true
       replace c75 := Bool.eq_false_iff.mpr c75
       subst c75
       replace H : ((iF13.f kj66 t436).bind fun bt489 => ((sF44.f kj66 t436).bind fun bt494 => (if (bt489.2 != bt494.2) = true then (wF29.j6 kj66 t436 t437 t438 t447 t451 t460 t469 t478 t479 t480 bt489.2 true bt489.1) else ((wF33.f kj66 bt489.1 bt494.1).bind fun t499 => (wF29.j6 kj66 t436 t437 t438 t447 t451 t460 t469 t478 t479 t480 bt489.2 (!t499) bt489.1))))) = some true := by rw [if_neg (show ¬ (false = true) by decide)] at H; exact H
       replace H := Option.bind_eq_some_iff.mp H
       obtain ⟨⟨t489, t492⟩, A760, H⟩ := H
       replace H : ((sF44.f kj66 t436).bind fun bt494 => (if (t492 != bt494.2) = true then (wF29.j6 kj66 t436 t437 t438 t447 t451 t460 t469 t478 t479 t480 t492 true t489) else ((wF33.f kj66 t489 bt494.1).bind fun t499 => (wF29.j6 kj66 t436 t437 t438 t447 t451 t460 t469 t478 t479 t480 t492 (!t499) t489)))) = some true := H
       have A76 := Aside0.mk A760
       clear A760
       replace H := Option.bind_eq_some_iff.mp H
       obtain ⟨⟨t494, t497⟩, A770, H⟩ := H
       replace H : (if (t492 != t497) = true then (wF29.j6 kj66 t436 t437 t438 t447 t451 t460 t469 t478 t479 t480 t492 true t489) else ((wF33.f kj66 t489 t494).bind fun t499 => (wF29.j6 kj66 t436 t437 t438 t447 t451 t460 t469 t478 t479 t480 t492 (!t499) t489))) = some true := H
       have A77 := Aside0.mk A770
       clear A770
       have HC78 := Aside0.mk H
       clear H
       go_upto_region 31 with (first | (go_at_call 23; (with_reducible refine (iF13.calls kj66 t436 t489 t492 _ A76.out).mono ?_); rintro e w79 ⟨v490, rfl, ho0, hb⟩; have n0_ := Aside0.mk (Kd.R_below (by (with_reducible repeat (first | apply Kd.R_alloc | apply Kd.R_drewN | apply Kd.R_drew)); exact HO_4.out) hb); have n1_ := Aside0.mk (Kd.R_below (by (with_reducible repeat (first | apply Kd.R_alloc | apply Kd.R_drewN | apply Kd.R_drew)); exact HO_12.out) hb); have n2_ := Aside0.mk (Kd.R_below (by (with_reducible repeat (first | apply Kd.R_alloc | apply Kd.R_drewN | apply Kd.R_drew)); exact HO_16.out) hb); have n3_ := Aside0.mk (Kd.R_below (by (with_reducible repeat (first | apply Kd.R_alloc | apply Kd.R_drewN | apply Kd.R_drew)); exact HO_20.out) hb); have n4_ := Aside0.mk (Kd.R_below (by (with_reducible repeat (first | apply Kd.R_alloc | apply Kd.R_drewN | apply Kd.R_drew)); exact HO_26.out) hb); have n5_ := Aside0.mk (Kd.R_lower ho0 (below_size (by repeat (first | (with_reducible first | exact HB.out | apply below_alloc | apply pw_below_drewN | apply below_drew1) | exact HB.out)))); have n6_ := Aside0.mk (below_step (by repeat (first | (with_reducible first | exact HB.out | apply below_alloc | apply pw_below_drewN | apply below_drew1) | exact HB.out)) hb); clear HO_4; clear HO_12; clear HO_16; clear HO_20; clear HO_26; clear HB; have HO_4 := n0_; have HO_12 := n1_; have HO_16 := n2_; have HO_20 := n3_; have HO_26 := n4_; have HO491 := n5_; have HB := n6_; clear n0_ n1_ n2_ n3_ n4_ n5_ n6_; (try clear hb); (try clear hb2); (try clear hk); (try clear hi); (try clear ho0)) | ((with_reducible refine gate_dst (N := 30) rfl ?_); (try (refine gate_guard (by rfl) ?_; dsimp only)); refine box_event ?hg (N := 30) ?hd (cs := #[.slice none 0 0]) (t := 41) ?hr ?_; (case hd => rfl); (case hg => rfl); (case hr => first | (go_simp; done) | (go_simp; rfl)); intro gb493 hg w80 hbox hb; have n0_ := Aside0.mk (Kd.R_below (by (with_reducible repeat (first | apply Kd.R_alloc | apply Kd.R_drewN | apply Kd.R_drew)); exact HO_4.out) hb); have n1_ := Aside0.mk (Kd.R_below (by (with_reducible repeat (first | apply Kd.R_alloc | apply Kd.R_drewN | apply Kd.R_drew)); exact HO_12.out) hb); have n2_ := Aside0.mk (Kd.R_below (by (with_reducible repeat (first | apply Kd.R_alloc | apply Kd.R_drewN | apply Kd.R_drew)); exact HO_16.out) hb); have n3_ := Aside0.mk (Kd.R_below (by (with_reducible repeat (first | apply Kd.R_alloc | apply Kd.R_drewN | apply Kd.R_drew)); exact HO_20.out) hb); have n4_ := Aside0.mk (Kd.R_below (by (with_reducible repeat (first | apply Kd.R_alloc | apply Kd.R_drewN | apply Kd.R_drew)); exact HO_26.out) hb); have n5_ := Aside0.mk (Kd.R_below (by (with_reducible repeat (first | apply Kd.R_alloc | apply Kd.R_drewN | apply Kd.R_drew)); exact HO491.out) hb); have n6_ := Aside0.mk (below_step (by repeat (first | (with_reducible first | exact HB.out | apply below_alloc | apply pw_below_drewN | apply below_drew1) | exact HB.out)) hb); have n7_ := Aside0.mk (hbox); have n8_ := Aside0.mk ((by rw [hg]; exact (below_size (by repeat (first | (with_reducible first | exact HB.out | apply below_alloc | apply pw_below_drewN | apply below_drew1) | exact HB.out))) : w.heap.size ≤ gb493)); have n9_ := Aside0.mk ((by rw [hg]; exact (below_size (by repeat (first | (with_reducible first | exact HB.out | apply below_alloc | apply pw_below_drewN | apply below_drew1) | exact HB.out))) : w.heap.size ≤ gb493)); clear HO_4; clear HO_12; clear HO_16; clear HO_20; clear HO_26; clear HO491; clear HB; have HO_4 := n0_; have HO_12 := n1_; have HO_16 := n2_; have HO_20 := n3_; have HO_26 := n4_; have HO491 := n5_; have HB := n6_; have BK493 := n7_; have GW493 := n8_; have GW493 := n9_; clear n0_ n1_ n2_ n3_ n4_ n5_ n6_ n7_ n8_ n9_; clear hb hbox hg; obtain ⟨Ao81, co81, eo81⟩ := Kd.R_slice HO491.out; subst eo81; have hcz82_0 : w80.cell? ⟨gb493, 0, none⟩ = some (.slice none 0 0) := (blk_cell BK493.out 0).trans rfl; have hfz82_0 := blk_frozen BK493.out 0) | (go_at_call 24; (with_reducible refine (sF44.calls kj66 t436 t494 t497 _ A77.out).mono ?_); rintro e w83 ⟨v495, rfl, ho0, hb⟩; have n0_ := Aside0.mk (Kd.R_below (by (with_reducible repeat (first | apply Kd.R_alloc | apply Kd.R_drewN | apply Kd.R_drew)); exact (Kd.R_mono (Kd.R_far (p := ⟨gb493, 0, none⟩) (Kd.R_types HO_4.out BK493.out (by decide)) (fun _ hk => hk.2) (.slice Ao81 t489.length co81)) (fun _ h_ => h_.1))) hb); have n1_ := Aside0.mk (Kd.R_below (by (with_reducible repeat (first | apply Kd.R_alloc | apply Kd.R_drewN | apply Kd.R_drew)); exact (Kd.R_mono (Kd.R_far (p := ⟨gb493, 0, none⟩) (Kd.R_types HO_12.out BK493.out (by decide)) (fun _ hk => hk.2) (.slice Ao81 t489.length co81)) (fun _ h_ => h_.1))) hb); have n2_ := Aside0.mk (Kd.R_below (by (with_reducible repeat (first | apply Kd.R_alloc | apply Kd.R_drewN | apply Kd.R_drew)); exact (Kd.R_mono (Kd.R_far (p := ⟨gb493, 0, none⟩) (Kd.R_types HO_16.out BK493.out (by decide)) (fun _ hk => hk.2) (.slice Ao81 t489.length co81)) (fun _ h_ => h_.1))) hb); have n3_ := Aside0.mk (Kd.R_below (by (with_reducible repeat (first | apply Kd.R_alloc | apply Kd.R_drewN | apply Kd.R_drew)); exact (Kd.R_mono (Kd.R_far (p := ⟨gb493, 0, none⟩) (Kd.R_types HO_20.out BK493.out (by decide)) (fun _ hk => hk.2) (.slice Ao81 t489.length co81)) (fun _ h_ => h_.1))) hb); have n4_ := Aside0.mk (Kd.R_below (by (with_reducible repeat (first | apply Kd.R_alloc | apply Kd.R_drewN | apply Kd.R_drew)); exact (Kd.R_mono (Kd.R_far (p := ⟨gb493, 0, none⟩) (Kd.R_types HO_26.out BK493.out (by decide)) (fun _ hk => hk.2) (.slice Ao81 t489.length co81)) (fun _ h_ => h_.1))) hb); have n5_ := Aside0.mk (Kd.R_elder' (by (with_reducible repeat (first | apply Kd.R_alloc | apply Kd.R_drewN | apply Kd.R_drew)); exact (Kd.R_mono (Kd.R_far (p := ⟨gb493, 0, none⟩) (Kd.R_types HO491.out BK493.out (by decide)) (fun _ hk => hk.2) (.slice Ao81 t489.length co81)) (fun _ h_ => h_.1))) (Kd.R_base ho0) hb); have n6_ := Aside0.mk (Kd.R_lower (Kd.R_new' ho0 (Kd.R_lt (by (with_reducible repeat (first | apply Kd.R_alloc | apply Kd.R_drewN | apply Kd.R_drew)); exact (Kd.R_mono (Kd.R_far (p := ⟨gb493, 0, none⟩) (Kd.R_types HO491.out BK493.out (by decide)) (fun _ hk => hk.2) (.slice Ao81 t489.length co81)) (fun _ h_ => h_.1))))) (below_size (by repeat (first | (with_reducible first | exact HB.out | apply below_alloc | apply pw_below_drewN | apply below_drew1 | refine below_set ?_ GW493.out) | exact HB.out)))); have n7_ := Aside0.mk (blk_below (g := gb493) (o := .cells #[.slice Ao81 t489.length co81] 41 (0, 0)) (by (with_reducible repeat (first | refine blk_drewN ?_ _ | refine blk_drew ?_ | refine blk_alloc ?_ _)); refine blk_put (cs := #[.slice none 0 0]) ?_ 0 _ rfl; (with_reducible repeat (first | refine blk_drewN ?_ _ | refine blk_drew ?_ | refine blk_alloc ?_ _)); exact BK493.out) hb); have n8_ := Aside0.mk (below_step (by repeat (first | (with_reducible first | exact HB.out | apply below_alloc | apply pw_below_drewN | apply below_drew1 | refine below_set ?_ GW493.out) | exact HB.out)) hb); clear HO_4; clear HO_12; clear HO_16; clear HO_20; clear HO_26; clear HO491; clear BK493; clear HB; have HO_4 := n0_; have HO_12 := n1_; have HO_16 := n2_; have HO_20 := n3_; have HO_26 := n4_; have HO491 := n5_; have HO496 := n6_; have BK493 := n7_; have HB := n8_; clear n0_ n1_ n2_ n3_ n4_ n5_ n6_ n7_ n8_; (try clear hb); (try clear hb2); (try clear hk); (try clear hi); (try clear ho0)) | ((with_reducible refine gate_dst (N := 32) rfl ?_); (try (refine gate_guard (by rfl) ?_; dsimp only)); refine box_event ?hg (N := 32) ?hd (cs := #[.slice none 0 0]) (t := 41) ?hr ?_; (case hd => rfl); (case hg => rfl); (case hr => first | (go_simp; done) | (go_simp; rfl)); intro gb498 hg w84 hbox hb; have n0_ := Aside0.mk (Kd.R_below (by (with_reducible repeat (first | apply Kd.R_alloc | apply Kd.R_drewN | apply Kd.R_drew)); exact HO_4.out) hb); have n1_ := Aside0.mk (Kd.R_below (by (with_reducible repeat (first | apply Kd.R_alloc | apply Kd.R_drewN | apply Kd.R_drew)); exact HO_12.out) hb); have n2_ := Aside0.mk (Kd.R_below (by (with_reducible repeat (first | apply Kd.R_alloc | apply Kd.R_drewN | apply Kd.R_drew)); exact HO_16.out) hb); have n3_ := Aside0.mk (Kd.R_below (by (with_reducible repeat (first | apply Kd.R_alloc | apply Kd.R_drewN | apply Kd.R_drew)); exact HO_20.out) hb); have n4_ := Aside0.mk (Kd.R_below (by (with_reducible repeat (first | apply Kd.R_alloc | apply Kd.R_drewN | apply Kd.R_drew)); exact HO_26.out) hb); have n5_ := Aside0.mk (Kd.R_below (by (with_reducible repeat (first | apply Kd.R_alloc | apply Kd.R_drewN | apply Kd.R_drew)); exact HO491.out) hb); have n6_ := Aside0.mk (Kd.R_below (by (with_reducible repeat (first | apply Kd.R_alloc | apply Kd.R_drewN | apply Kd.R_drew)); exact HO496.out) hb); have n7_ := Aside0.mk (blk_below (g := gb493) (o := .cells #[.slice Ao81 t489.length co81] 41 (0, 0)) (by (with_reducible repeat (first | refine blk_drewN ?_ _ | refine blk_drew ?_ | refine blk_alloc ?_ _)); exact BK493.out) hb); have n8_ := Aside0.mk (below_step (by repeat (first | (with_reducible first | exact HB.out | apply below_alloc | apply pw_below_drewN | apply below_drew1 | refine below_set ?_ GW493.out) | exact HB.out)) hb); have n9_ := Aside0.mk (hbox); have n10_ := Aside0.mk ((by rw [hg]; exact (below_size (by repeat (first | (with_reducible first | exact HB.out | apply below_alloc | apply pw_below_drewN | apply below_drew1 | refine below_set ?_ GW493.out) | exact HB.out))) : w.heap.size ≤ gb498)); have n11_ := Aside0.mk ((by rw [hg]; exact (below_size (by repeat (first | (with_reducible first | exact HB.out | apply below_alloc | apply pw_below_drewN | apply below_drew1 | refine below_set ?_ GW493.out) | exact HB.out))) : w.heap.size ≤ gb498)); have n12_ := Aside0.mk ((by rw [hg]; exact Nat.ne_of_lt (blk_lt (g := gb493) (o := .cells #[.slice Ao81 t489.length co81] 41 (0, 0)) (by (with_reducible repeat (first | refine blk_drewN ?_ _ | refine blk_drew ?_ | refine blk_alloc ?_ _)); exact BK493.out)) : gb493 ≠ gb498)); have n13_ := Aside0.mk ((by rw [hg]; exact Nat.ne_of_gt (blk_lt (g := gb493) (o := .cells #[.slice Ao81 t489.length co81] 41 (0, 0)) (by (with_reducible repeat (first | refine blk_drewN ?_ _ | refine blk_drew ?_ | refine blk_alloc ?_ _)); exact BK493.out)) : gb498 ≠ gb493)); clear HO_4; clear HO_12; clear HO_16; clear HO_20; clear HO_26; clear HO491; clear HO496; clear BK493; clear HB; have HO_4 := n0_; have HO_12 := n1_; have HO_16 := n2_; have HO_20 := n3_; have HO_26 := n4_; have HO491 := n5_; have HO496 := n6_; have BK493 := n7_; have HB := n8_; have BK498 := n9_; have GW498 := n10_; have GW498 := n11_; have NB493_498 := n12_; have NB498_493 := n13_; clear n0_ n1_ n2_ n3_ n4_ n5_ n6_ n7_ n8_ n9_ n10_ n11_ n12_ n13_; clear hb hbox hg; obtain ⟨Ao85, co85, eo85⟩ := Kd.R_slice HO496.out; subst eo85; have hnb86 := NB498_493.out; have hnc86 := NB493_498.out; have hcz87_0 : w84.cell? ⟨gb498, 0, none⟩ = some (.slice none 0 0) := (blk_cell BK498.out 0).trans rfl; have hfz87_0 := blk_frozen BK498.out 0))
       repeat (go_quiet (first | (go_at_call 23; (with_reducible refine (iF13.calls kj66 t436 t489 t492 _ A76.out).mono ?_); rintro e w79 ⟨v490, rfl, ho0, hb⟩; have n0_ := Aside0.mk (Kd.R_below (by (with_reducible repeat (first | apply Kd.R_alloc | apply Kd.R_drewN | apply Kd.R_drew)); exact HO_4.out) hb); have n1_ := Aside0.mk (Kd.R_below (by (with_reducible repeat (first | apply Kd.R_alloc | apply Kd.R_drewN | apply Kd.R_drew)); exact HO_12.out) hb); have n2_ := Aside0.mk (Kd.R_below (by (with_reducible repeat (first | apply Kd.R_alloc | apply Kd.R_drewN | apply Kd.R_drew)); exact HO_16.out) hb); have n3_ := Aside0.mk (Kd.R_below (by (with_reducible repeat (first | apply Kd.R_alloc | apply Kd.R_drewN | apply Kd.R_drew)); exact HO_20.out) hb); have n4_ := Aside0.mk (Kd.R_below (by (with_reducible repeat (first | apply Kd.R_alloc | apply Kd.R_drewN | apply Kd.R_drew)); exact HO_26.out) hb); have n5_ := Aside0.mk (Kd.R_lower ho0 (below_size (by repeat (first | (with_reducible first | exact HB.out | apply below_alloc | apply pw_below_drewN | apply below_drew1) | exact HB.out)))); have n6_ := Aside0.mk (below_step (by repeat (first | (with_reducible first | exact HB.out | apply below_alloc | apply pw_below_drewN | apply below_drew1) | exact HB.out)) hb); clear HO_4; clear HO_12; clear HO_16; clear HO_20; clear HO_26; clear HB; have HO_4 := n0_; have HO_12 := n1_; have HO_16 := n2_; have HO_20 := n3_; have HO_26 := n4_; have HO491 := n5_; have HB := n6_; clear n0_ n1_ n2_ n3_ n4_ n5_ n6_; (try clear hb); (try clear hb2); (try clear hk); (try clear hi); (try clear ho0)) | ((with_reducible refine gate_dst (N := 30) rfl ?_); (try (refine gate_guard (by rfl) ?_; dsimp only)); refine box_event ?hg (N := 30) ?hd (cs := #[.slice none 0 0]) (t := 41) ?hr ?_; (case hd => rfl); (case hg => rfl); (case hr => first | (go_simp; done) | (go_simp; rfl)); intro gb493 hg w80 hbox hb; have n0_ := Aside0.mk (Kd.R_below (by (with_reducible repeat (first | apply Kd.R_alloc | apply Kd.R_drewN | apply Kd.R_drew)); exact HO_4.out) hb); have n1_ := Aside0.mk (Kd.R_below (by (with_reducible repeat (first | apply Kd.R_alloc | apply Kd.R_drewN | apply Kd.R_drew)); exact HO_12.out) hb); have n2_ := Aside0.mk (Kd.R_below (by (with_reducible repeat (first | apply Kd.R_alloc | apply Kd.R_drewN | apply Kd.R_drew)); exact HO_16.out) hb); have n3_ := Aside0.mk (Kd.R_below (by (with_reducible repeat (first | apply Kd.R_alloc | apply Kd.R_drewN | apply Kd.R_drew)); exact HO_20.out) hb); have n4_ := Aside0.mk (Kd.R_below (by (with_reducible repeat (first | apply Kd.R_alloc | apply Kd.R_drewN | apply Kd.R_drew)); exact HO_26.out) hb); have n5_ := Aside0.mk (Kd.R_below (by (with_reducible repeat (first | apply Kd.R_alloc | apply Kd.R_drewN | apply Kd.R_drew)); exact HO491.out) hb); have n6_ := Aside0.mk (below_step (by repeat (first | (with_reducible first | exact HB.out | apply below_alloc | apply pw_below_drewN | apply below_drew1) | exact HB.out)) hb); have n7_ := Aside0.mk (hbox); have n8_ := Aside0.mk ((by rw [hg]; exact (below_size (by repeat (first | (with_reducible first | exact HB.out | apply below_alloc | apply pw_below_drewN | apply below_drew1) | exact HB.out))) : w.heap.size ≤ gb493)); have n9_ := Aside0.mk ((by rw [hg]; exact (below_size (by repeat (first | (with_reducible first | exact HB.out | apply below_alloc | apply pw_below_drewN | apply below_drew1) | exact HB.out))) : w.heap.size ≤ gb493)); clear HO_4; clear HO_12; clear HO_16; clear HO_20; clear HO_26; clear HO491; clear HB; have HO_4 := n0_; have HO_12 := n1_; have HO_16 := n2_; have HO_20 := n3_; have HO_26 := n4_; have HO491 := n5_; have HB := n6_; have BK493 := n7_; have GW493 := n8_; have GW493 := n9_; clear n0_ n1_ n2_ n3_ n4_ n5_ n6_ n7_ n8_ n9_; clear hb hbox hg; obtain ⟨Ao81, co81, eo81⟩ := Kd.R_slice HO491.out; subst eo81; have hcz82_0 : w80.cell? ⟨gb493, 0, none⟩ = some (.slice none 0 0) := (blk_cell BK493.out 0).trans rfl; have hfz82_0 := blk_frozen BK493.out 0) | (go_at_call 24; (with_reducible refine (sF44.calls kj66 t436 t494 t497 _ A77.out).mono ?_); rintro e w83 ⟨v495, rfl, ho0, hb⟩; have n0_ := Aside0.mk (Kd.R_below (by (with_reducible repeat (first | apply Kd.R_alloc | apply Kd.R_drewN | apply Kd.R_drew)); exact (Kd.R_mono (Kd.R_far (p := ⟨gb493, 0, none⟩) (Kd.R_types HO_4.out BK493.out (by decide)) (fun _ hk => hk.2) (.slice Ao81 t489.length co81)) (fun _ h_ => h_.1))) hb); have n1_ := Aside0.mk (Kd.R_below (by (with_reducible repeat (first | apply Kd.R_alloc | apply Kd.R_drewN | apply Kd.R_drew)); exact (Kd.R_mono (Kd.R_far (p := ⟨gb493, 0, none⟩) (Kd.R_types HO_12.out BK493.out (by decide)) (fun _ hk => hk.2) (.slice Ao81 t489.length co81)) (fun _ h_ => h_.1))) hb); have n2_ := Aside0.mk (Kd.R_below (by (with_reducible repeat (first | apply Kd.R_alloc | apply Kd.R_drewN | apply Kd.R_drew)); exact (Kd.R_mono (Kd.R_far (p := ⟨gb493, 0, none⟩) (Kd.R_types HO_16.out BK493.out (by decide)) (fun _ hk => hk.2) (.slice Ao81 t489.length co81)) (fun _ h_ => h_.1))) hb); have n3_ := Aside0.mk (Kd.R_below (by (with_reducible repeat (first | apply Kd.R_alloc | apply Kd.R_drewN | apply Kd.R_drew)); exact (Kd.R_mono (Kd.R_far (p := ⟨gb493, 0, none⟩) (Kd.R_types HO_20.out BK493.out (by decide)) (fun _ hk => hk.2) (.slice Ao81 t489.length co81)) (fun _ h_ => h_.1))) hb); have n4_ := Aside0.mk (Kd.R_below (by (with_reducible repeat (first | apply Kd.R_alloc | apply Kd.R_drewN | apply Kd.R_drew)); exact (Kd.R_mono (Kd.R_far (p := ⟨gb493, 0, none⟩) (Kd.R_types HO_26.out BK493.out (by decide)) (fun _ hk => hk.2) (.slice Ao81 t489.length co81)) (fun _ h_ => h_.1))) hb); have n5_ := Aside0.mk (Kd.R_elder' (by (with_reducible repeat (first | apply Kd.R_alloc | apply Kd.R_drewN | apply Kd.R_drew)); exact (Kd.R_mono (Kd.R_far (p := ⟨gb493, 0, none⟩) (Kd.R_types HO491.out BK493.out (by decide)) (fun _ hk => hk.2) (.slice Ao81 t489.length co81)) (fun _ h_ => h_.1))) (Kd.R_base ho0) hb); have n6_ := Aside0.mk (Kd.R_lower (Kd.R_new' ho0 (Kd.R_lt (by (with_reducible repeat (first | apply Kd.R_alloc | apply Kd.R_drewN | apply Kd.R_drew)); exact (Kd.R_mono (Kd.R_far (p := ⟨gb493, 0, none⟩) (Kd.R_types HO491.out BK493.out (by decide)) (fun _ hk => hk.2) (.slice Ao81 t489.length co81)) (fun _ h_ => h_.1))))) (below_size (by repeat (first | (with_reducible first | exact HB.out | apply below_alloc | apply pw_below_drewN | apply below_drew1 | refine below_set ?_ GW493.out) | exact HB.out)))); have n7_ := Aside0.mk (blk_below (g := gb493) (o := .cells #[.slice Ao81 t489.length co81] 41 (0, 0)) (by (with_reducible repeat (first | refine blk_drewN ?_ _ | refine blk_drew ?_ | refine blk_alloc ?_ _)); refine blk_put (cs := #[.slice none 0 0]) ?_ 0 _ rfl; (with_reducible repeat (first | refine blk_drewN ?_ _ | refine blk_drew ?_ | refine blk_alloc ?_ _)); exact BK493.out) hb); have n8_ := Aside0.mk (below_step (by repeat (first | (with_reducible first | exact HB.out | apply below_alloc | apply pw_below_drewN | apply below_drew1 | refine below_set ?_ GW493.out) | exact HB.out)) hb); clear HO_4; clear HO_12; clear HO_16; clear HO_20; clear HO_26; clear HO491; clear BK493; clear HB; have HO_4 := n0_; have HO_12 := n1_; have HO_16 := n2_; have HO_20 := n3_; have HO_26 := n4_; have HO491 := n5_; have HO496 := n6_; have BK493 := n7_; have HB := n8_; clear n0_ n1_ n2_ n3_ n4_ n5_ n6_ n7_ n8_; (try clear hb); (try clear hb2); (try clear hk); (try clear hi); (try clear ho0)) | ((with_reducible refine gate_dst (N := 32) rfl ?_); (try (refine gate_guard (by rfl) ?_; dsimp only)); refine box_event ?hg (N := 32) ?hd (cs := #[.slice none 0 0]) (t := 41) ?hr ?_; (case hd => rfl); (case hg => rfl); (case hr => first | (go_simp; done) | (go_simp; rfl)); intro gb498 hg w84 hbox hb; have n0_ := Aside0.mk (Kd.R_below (by (with_reducible repeat (first | apply Kd.R_alloc | apply Kd.R_drewN | apply Kd.R_drew)); exact HO_4.out) hb); have n1_ := Aside0.mk (Kd.R_below (by (with_reducible repeat (first | apply Kd.R_alloc | apply Kd.R_drewN | apply Kd.R_drew)); exact HO_12.out) hb); have n2_ := Aside0.mk (Kd.R_below (by (with_reducible repeat (first | apply Kd.R_alloc | apply Kd.R_drewN | apply Kd.R_drew)); exact HO_16.out) hb); have n3_ := Aside0.mk (Kd.R_below (by (with_reducible repeat (first | apply Kd.R_alloc | apply Kd.R_drewN | apply Kd.R_drew)); exact HO_20.out) hb); have n4_ := Aside0.mk (Kd.R_below (by (with_reducible repeat (first | apply Kd.R_alloc | apply Kd.R_drewN | apply Kd.R_drew)); exact HO_26.out) hb); have n5_ := Aside0.mk (Kd.R_below (by (with_reducible repeat (first | apply Kd.R_alloc | apply Kd.R_drewN | apply Kd.R_drew)); exact HO491.out) hb); have n6_ := Aside0.mk (Kd.R_below (by (with_reducible repeat (first | apply Kd.R_alloc | apply Kd.R_drewN | apply Kd.R_drew)); exact HO496.out) hb); have n7_ := Aside0.mk (blk_below (g := gb493) (o := .cells #[.slice Ao81 t489.length co81] 41 (0, 0)) (by (with_reducible repeat (first | refine blk_drewN ?_ _ | refine blk_drew ?_ | refine blk_alloc ?_ _)); exact BK493.out) hb); have n8_ := Aside0.mk (below_step (by repeat (first | (with_reducible first | exact HB.out | apply below_alloc | apply pw_below_drewN | apply below_drew1 | refine below_set ?_ GW493.out) | exact HB.out)) hb); have n9_ := Aside0.mk (hbox); have n10_ := Aside0.mk ((by rw [hg]; exact (below_size (by repeat (first | (with_reducible first | exact HB.out | apply below_alloc | apply pw_below_drewN | apply below_drew1 | refine below_set ?_ GW493.out) | exact HB.out))) : w.heap.size ≤ gb498)); have n11_ := Aside0.mk ((by rw [hg]; exact (below_size (by repeat (first | (with_reducible first | exact HB.out | apply below_alloc | apply pw_below_drewN | apply below_drew1 | refine below_set ?_ GW493.out) | exact HB.out))) : w.heap.size ≤ gb498)); have n12_ := Aside0.mk ((by rw [hg]; exact Nat.ne_of_lt (blk_lt (g := gb493) (o := .cells #[.slice Ao81 t489.length co81] 41 (0, 0)) (by (with_reducible repeat (first | refine blk_drewN ?_ _ | refine blk_drew ?_ | refine blk_alloc ?_ _)); exact BK493.out)) : gb493 ≠ gb498)); have n13_ := Aside0.mk ((by rw [hg]; exact Nat.ne_of_gt (blk_lt (g := gb493) (o := .cells #[.slice Ao81 t489.length co81] 41 (0, 0)) (by (with_reducible repeat (first | refine blk_drewN ?_ _ | refine blk_drew ?_ | refine blk_alloc ?_ _)); exact BK493.out)) : gb498 ≠ gb493)); clear HO_4; clear HO_12; clear HO_16; clear HO_20; clear HO_26; clear HO491; clear HO496; clear BK493; clear HB; have HO_4 := n0_; have HO_12 := n1_; have HO_16 := n2_; have HO_20 := n3_; have HO_26 := n4_; have HO491 := n5_; have HO496 := n6_; have BK493 := n7_; have HB := n8_; have BK498 := n9_; have GW498 := n10_; have GW498 := n11_; have NB493_498 := n12_; have NB498_493 := n13_; clear n0_ n1_ n2_ n3_ n4_ n5_ n6_ n7_ n8_ n9_ n10_ n11_ n12_ n13_; clear hb hbox hg; obtain ⟨Ao85, co85, eo85⟩ := Kd.R_slice HO496.out; subst eo85; have hnb86 := NB498_493.out; have hnc86 := NB493_498.out; have hcz87_0 : w84.cell? ⟨gb498, 0, none⟩ = some (.slice none 0 0) := (blk_cell BK498.out 0).trans rfl; have hfz87_0 := blk_frozen BK498.out 0)); go_upto_region 31 with (first | (go_at_call 23; (with_reducible refine (iF13.calls kj66 t436 t489 t492 _ A76.out).mono ?_); rintro e w79 ⟨v490, rfl, ho0, hb⟩; have n0_ := Aside0.mk (Kd.R_below (by (with_reducible repeat (first | apply Kd.R_alloc | apply Kd.R_drewN | apply Kd.R_drew)); exact HO_4.out) hb); have n1_ := Aside0.mk (Kd.R_below (by (with_reducible repeat (first | apply Kd.R_alloc | apply Kd.R_drewN | apply Kd.R_drew)); exact HO_12.out) hb); have n2_ := Aside0.mk (Kd.R_below (by (with_reducible repeat (first | apply Kd.R_alloc | apply Kd.R_drewN | apply Kd.R_drew)); exact HO_16.out) hb); have n3_ := Aside0.mk (Kd.R_below (by (with_reducible repeat (first | apply Kd.R_alloc | apply Kd.R_drewN | apply Kd.R_drew)); exact HO_20.out) hb); have n4_ := Aside0.mk (Kd.R_below (by (with_reducible repeat (first | apply Kd.R_alloc | apply Kd.R_drewN | apply Kd.R_drew)); exact HO_26.out) hb); have n5_ := Aside0.mk (Kd.R_lower ho0 (below_size (by repeat (first | (with_reducible first | exact HB.out | apply below_alloc | apply pw_below_drewN | apply below_drew1) | exact HB.out)))); have n6_ := Aside0.mk (below_step (by repeat (first | (with_reducible first | exact HB.out | apply below_alloc | apply pw_below_drewN | apply below_drew1) | exact HB.out)) hb); clear HO_4; clear HO_12; clear HO_16; clear HO_20; clear HO_26; clear HB; have HO_4 := n0_; have HO_12 := n1_; have HO_16 := n2_; have HO_20 := n3_; have HO_26 := n4_; have HO491 := n5_; have HB := n6_; clear n0_ n1_ n2_ n3_ n4_ n5_ n6_; (try clear hb); (try clear hb2); (try clear hk); (try clear hi); (try clear ho0)) | ((with_reducible refine gate_dst (N := 30) rfl ?_); (try (refine gate_guard (by rfl) ?_; dsimp only)); refine box_event ?hg (N := 30) ?hd (cs := #[.slice none 0 0]) (t := 41) ?hr ?_; (case hd => rfl); (case hg => rfl); (case hr => first | (go_simp; done) | (go_simp; rfl)); intro gb493 hg w80 hbox hb; have n0_ := Aside0.mk (Kd.R_below (by (with_reducible repeat (first | apply Kd.R_alloc | apply Kd.R_drewN | apply Kd.R_drew)); exact HO_4.out) hb); have n1_ := Aside0.mk (Kd.R_below (by (with_reducible repeat (first | apply Kd.R_alloc | apply Kd.R_drewN | apply Kd.R_drew)); exact HO_12.out) hb); have n2_ := Aside0.mk (Kd.R_below (by (with_reducible repeat (first | apply Kd.R_alloc | apply Kd.R_drewN | apply Kd.R_drew)); exact HO_16.out) hb); have n3_ := Aside0.mk (Kd.R_below (by (with_reducible repeat (first | apply Kd.R_alloc | apply Kd.R_drewN | apply Kd.R_drew)); exact HO_20.out) hb); have n4_ := Aside0.mk (Kd.R_below (by (with_reducible repeat (first | apply Kd.R_alloc | apply Kd.R_drewN | apply Kd.R_drew)); exact HO_26.out) hb); have n5_ := Aside0.mk (Kd.R_below (by (with_reducible repeat (first | apply Kd.R_alloc | apply Kd.R_drewN | apply Kd.R_drew)); exact HO491.out) hb); have n6_ := Aside0.mk (below_step (by repeat (first | (with_reducible first | exact HB.out | apply below_alloc | apply pw_below_drewN | apply below_drew1) | exact HB.out)) hb); have n7_ := Aside0.mk (hbox); have n8_ := Aside0.mk ((by rw [hg]; exact (below_size (by repeat (first | (with_reducible first | exact HB.out | apply below_alloc | apply pw_below_drewN | apply below_drew1) | exact HB.out))) : w.heap.size ≤ gb493)); have n9_ := Aside0.mk ((by rw [hg]; exact (below_size (by repeat (first | (with_reducible first | exact HB.out | apply below_alloc | apply pw_below_drewN | apply below_drew1) | exact HB.out))) : w.heap.size ≤ gb493)); clear HO_4; clear HO_12; clear HO_16; clear HO_20; clear HO_26; clear HO491; clear HB; have HO_4 := n0_; have HO_12 := n1_; have HO_16 := n2_; have HO_20 := n3_; have HO_26 := n4_; have HO491 := n5_; have HB := n6_; have BK493 := n7_; have GW493 := n8_; have GW493 := n9_; clear n0_ n1_ n2_ n3_ n4_ n5_ n6_ n7_ n8_ n9_; clear hb hbox hg; obtain ⟨Ao81, co81, eo81⟩ := Kd.R_slice HO491.out; subst eo81; have hcz82_0 : w80.cell? ⟨gb493, 0, none⟩ = some (.slice none 0 0) := (blk_cell BK493.out 0).trans rfl; have hfz82_0 := blk_frozen BK493.out 0) | (go_at_call 24; (with_reducible refine (sF44.calls kj66 t436 t494 t497 _ A77.out).mono ?_); rintro e w83 ⟨v495, rfl, ho0, hb⟩; have n0_ := Aside0.mk (Kd.R_below (by (with_reducible repeat (first | apply Kd.R_alloc | apply Kd.R_drewN | apply Kd.R_drew)); exact (Kd.R_mono (Kd.R_far (p := ⟨gb493, 0, none⟩) (Kd.R_types HO_4.out BK493.out (by decide)) (fun _ hk => hk.2) (.slice Ao81 t489.length co81)) (fun _ h_ => h_.1))) hb); have n1_ := Aside0.mk (Kd.R_below (by (with_reducible repeat (first | apply Kd.R_alloc | apply Kd.R_drewN | apply Kd.R_drew)); exact (Kd.R_mono (Kd.R_far (p := ⟨gb493, 0, none⟩) (Kd.R_types HO_12.out BK493.out (by decide)) (fun _ hk => hk.2) (.slice Ao81 t489.length co81)) (fun _ h_ => h_.1))) hb); have n2_ := Aside0.mk (Kd.R_below (by (with_reducible repeat (first | apply Kd.R_alloc | apply Kd.R_drewN | apply Kd.R_drew)); exact (Kd.R_mono (Kd.R_far (p := ⟨gb493, 0, none⟩) (Kd.R_types HO_16.out BK493.out (by decide)) (fun _ hk => hk.2) (.slice Ao81 t489.length co81)) (fun _ h_ => h_.1))) hb); have n3_ := Aside0.mk (Kd.R_below (by (with_reducible repeat (first | apply Kd.R_alloc | apply Kd.R_drewN | apply Kd.R_drew)); exact (Kd.R_mono (Kd.R_far (p := ⟨gb493, 0, none⟩) (Kd.R_types HO_20.out BK493.out (by decide)) (fun _ hk => hk.2) (.slice Ao81 t489.length co81)) (fun _ h_ => h_.1))) hb); have n4_ := Aside0.mk (Kd.R_below (by (with_reducible repeat (first | apply Kd.R_alloc | apply Kd.R_drewN | apply Kd.R_drew)); exact (Kd.R_mono (Kd.R_far (p := ⟨gb493, 0, none⟩) (Kd.R_types HO_26.out BK493.out (by decide)) (fun _ hk => hk.2) (.slice Ao81 t489.length co81)) (fun _ h_ => h_.1))) hb); have n5_ := Aside0.mk (Kd.R_elder' (by (with_reducible repeat (first | apply Kd.R_alloc | apply Kd.R_drewN | apply Kd.R_drew)); exact (Kd.R_mono (Kd.R_far (p := ⟨gb493, 0, none⟩) (Kd.R_types HO491.out BK493.out (by decide)) (fun _ hk => hk.2) (.slice Ao81 t489.length co81)) (fun _ h_ => h_.1))) (Kd.R_base ho0) hb); have n6_ := Aside0.mk (Kd.R_lower (Kd.R_new' ho0 (Kd.R_lt (by (with_reducible repeat (first | apply Kd.R_alloc | apply Kd.R_drewN | apply Kd.R_drew)); exact (Kd.R_mono (Kd.R_far (p := ⟨gb493, 0, none⟩) (Kd.R_types HO491.out BK493.out (by decide)) (fun _ hk => hk.2) (.slice Ao81 t489.length co81)) (fun _ h_ => h_.1))))) (below_size (by repeat (first | (with_reducible first | exact HB.out | apply below_alloc | apply pw_below_drewN | apply below_drew1 | refine below_set ?_ GW493.out) | exact HB.out)))); have n7_ := Aside0.mk (blk_below (g := gb493) (o := .cells #[.slice Ao81 t489.length co81] 41 (0, 0)) (by (with_reducible repeat (first | refine blk_drewN ?_ _ | refine blk_drew ?_ | refine blk_alloc ?_ _)); refine blk_put (cs := #[.slice none 0 0]) ?_ 0 _ rfl; (with_reducible repeat (first | refine blk_drewN ?_ _ | refine blk_drew ?_ | refine blk_alloc ?_ _)); exact BK493.out) hb); have n8_ := Aside0.mk (below_step (by repeat (first | (with_reducible first | exact HB.out | apply below_alloc | apply pw_below_drewN | apply below_drew1 | refine below_set ?_ GW493.out) | exact HB.out)) hb); clear HO_4; clear HO_12; clear HO_16; clear HO_20; clear HO_26; clear HO491; clear BK493; clear HB; have HO_4 := n0_; have HO_12 := n1_; have HO_16 := n2_; have HO_20 := n3_; have HO_26 := n4_; have HO491 := n5_; have HO496 := n6_; have BK493 := n7_; have HB := n8_; clear n0_ n1_ n2_ n3_ n4_ n5_ n6_ n7_ n8_; (try clear hb); (try clear hb2); (try clear hk); (try clear hi); (try clear ho0)) | ((with_reducible refine gate_dst (N := 32) rfl ?_); (try (refine gate_guard (by rfl) ?_; dsimp only)); refine box_event ?hg (N := 32) ?hd (cs := #[.slice none 0 0]) (t := 41) ?hr ?_; (case hd => rfl); (case hg => rfl); (case hr => first | (go_simp; done) | (go_simp; rfl)); intro gb498 hg w84 hbox hb; have n0_ := Aside0.mk (Kd.R_below (by (with_reducible repeat (first | apply Kd.R_alloc | apply Kd.R_drewN | apply Kd.R_drew)); exact HO_4.out) hb); have n1_ := Aside0.mk (Kd.R_below (by (with_reducible repeat (first | apply Kd.R_alloc | apply Kd.R_drewN | apply Kd.R_drew)); exact HO_12.out) hb); have n2_ := Aside0.mk (Kd.R_below (by (with_reducible repeat (first | apply Kd.R_alloc | apply Kd.R_drewN | apply Kd.R_drew)); exact HO_16.out) hb); have n3_ := Aside0.mk (Kd.R_below (by (with_reducible repeat (first | apply Kd.R_alloc | apply Kd.R_drewN | apply Kd.R_drew)); exact HO_20.out) hb); have n4_ := Aside0.mk (Kd.R_below (by (with_reducible repeat (first | apply Kd.R_alloc | apply Kd.R_drewN | apply Kd.R_drew)); exact HO_26.out) hb); have n5_ := Aside0.mk (Kd.R_below (by (with_reducible repeat (first | apply Kd.R_alloc | apply Kd.R_drewN | apply Kd.R_drew)); exact HO491.out) hb); have n6_ := Aside0.mk (Kd.R_below (by (with_reducible repeat (first | apply Kd.R_alloc | apply Kd.R_drewN | apply Kd.R_drew)); exact HO496.out) hb); have n7_ := Aside0.mk (blk_below (g := gb493) (o := .cells #[.slice Ao81 t489.length co81] 41 (0, 0)) (by (with_reducible repeat (first | refine blk_drewN ?_ _ | refine blk_drew ?_ | refine blk_alloc ?_ _)); exact BK493.out) hb); have n8_ := Aside0.mk (below_step (by repeat (first | (with_reducible first | exact HB.out | apply below_alloc | apply pw_below_drewN | apply below_drew1 | refine below_set ?_ GW493.out) | exact HB.out)) hb); have n9_ := Aside0.mk (hbox); have n10_ := Aside0.mk ((by rw [hg]; exact (below_size (by repeat (first | (with_reducible first | exact HB.out | apply below_alloc | apply pw_below_drewN | apply below_drew1 | refine below_set ?_ GW493.out) | exact HB.out))) : w.heap.size ≤ gb498)); have n11_ := Aside0.mk ((by rw [hg]; exact (below_size (by repeat (first | (with_reducible first | exact HB.out | apply below_alloc | apply pw_below_drewN | apply below_drew1 | refine below_set ?_ GW493.out) | exact HB.out))) : w.heap.size ≤ gb498)); have n12_ := Aside0.mk ((by rw [hg]; exact Nat.ne_of_lt (blk_lt (g := gb493) (o := .cells #[.slice Ao81 t489.length co81] 41 (0, 0)) (by (with_reducible repeat (first | refine blk_drewN ?_ _ | refine blk_drew ?_ | refine blk_alloc ?_ _)); exact BK493.out)) : gb493 ≠ gb498)); have n13_ := Aside0.mk ((by rw [hg]; exact Nat.ne_of_gt (blk_lt (g := gb493) (o := .cells #[.slice Ao81 t489.length co81] 41 (0, 0)) (by (with_reducible repeat (first | refine blk_drewN ?_ _ | refine blk_drew ?_ | refine blk_alloc ?_ _)); exact BK493.out)) : gb498 ≠ gb493)); clear HO_4; clear HO_12; clear HO_16; clear HO_20; clear HO_26; clear HO491; clear HO496; clear BK493; clear HB; have HO_4 := n0_; have HO_12 := n1_; have HO_16 := n2_; have HO_20 := n3_; have HO_26 := n4_; have HO491 := n5_; have HO496 := n6_; have BK493 := n7_; have HB := n8_; have BK498 := n9_; have GW498 := n10_; have GW498 := n11_; have NB493_498 := n12_; have NB498_493 := n13_; clear n0_ n1_ n2_ n3_ n4_ n5_ n6_ n7_ n8_ n9_ n10_ n11_ n12_ n13_; clear hb hbox hg; obtain ⟨Ao85, co85, eo85⟩ := Kd.R_slice HO496.out; subst eo85; have hnb86 := NB498_493.out; have hnc86 := NB493_498.out; have hcz87_0 : w84.cell? ⟨gb498, 0, none⟩ = some (.slice none 0 0) := (blk_cell BK498.out 0).trans rfl; have hfz87_0 := blk_frozen BK498.out 0)))
       (try simp only [Act.put, List.setIfInBounds_toArray, List.set_cons_zero, List.set_cons_succ])
       go_cut [220] from 100000 (fun v220 wc => ∃ (kq : Nat) (x220_77 : Bool), v220 = .bool x220_77 ∧ Aside0 (wF29.j6 kq t436 t437 t438 t447 t451 t460 t469 t478 t479 t480 t492 x220_77 t489 = some true) ∧ Aside0 (kq ≤ kj66) ∧ Aside0 (Kd.R Kd.string 9 wc w.heap.size (fun _ => True) v439 t437) ∧ Aside0 (Kd.R (Kd.int .i64) 3 wc w.heap.size (fun k_ => some k_ ≠ (v462 : Value).ownBlock ∧ some k_ ≠ (v471 : Value).ownBlock ∧ some k_ ≠ (v482 : Value).ownBlock) v453 t451) ∧ Aside0 (Kd.R (Kd.int .i64) 3 wc w.heap.size (fun k_ => some k_ ≠ (v453 : Value).ownBlock ∧ some k_ ≠ (v471 : Value).ownBlock ∧ some k_ ≠ (v482 : Value).ownBlock) v462 t460) ∧ Aside0 (Kd.R (Kd.int .i64) 3 wc w.heap.size (fun k_ => some k_ ≠ (v453 : Value).ownBlock ∧ some k_ ≠ (v462 : Value).ownBlock ∧ some k_ ≠ (v482 : Value).ownBlock) v471 t469) ∧ Aside0 (Kd.R (Kd.int .i64) 3 wc w.heap.size (fun k_ => some k_ ≠ (v453 : Value).ownBlock ∧ some k_ ≠ (v462 : Value).ownBlock ∧ some k_ ≠ (v471 : Value).ownBlock) v482 t480) ∧ Aside0 (Kd.R k46 46 wc w.heap.size (fun k_ => some k_ ≠ ((.slice Ao85 t494.length co85) : Value).ownBlock) (.slice Ao81 t489.length co81) t489) ∧ Aside0 (Kd.R k46 46 wc w.heap.size (fun k_ => some k_ ≠ ((.slice Ao81 t489.length co81) : Value).ownBlock) (.slice Ao85 t494.length co85) t494) ∧ Aside0 (wc.heap[gb493]? = some (.cells #[(.slice Ao81 t489.length co81)] 41 (0, 0))) ∧ Aside0 (wc.heap[gb498]? = some (.cells #[(.slice Ao85 t494.length co85)] 41 (0, 0))) ∧ Aside0 (Below w.heap.size w wc))
       case first =>
        have H := HC78.out
        clear HC78
        by_cases c88 : (t492 != t497) = true
        ·
         rw [if_pos c88] at H
         have c88b0 : (t492 != t497) = true := c88
         (try (have c88b1 : decide (t492 = t497) = false := by simpa using c88))
         (try (have c88b2 : (t492 == t497) = false := by simpa using c88))
         (try (have c88b3 : ¬ (t492 = t497) := by simpa using c88))
         clear c88
         (first | rw [c88b0] | (simp only [i64_w, i32_w]; rw [c88b0]) | skip)
         have H' := Aside0.mk H
         clear H
         go_wp2
         repeat (go_quiet (fail); try go_wp2)
         go_meet
         case rel => exact ⟨_, (true), (by first | rfl | (simp; done) | (simp [*]; done)), H', ⟨by have := HJ6.out; have := HJ21.out; have := HJ32.out; have := HJ43.out; have := HJ54.out; have := HJ66.out; first | omega | exact Nat.le_refl _⟩, ⟨by (with_reducible repeat (first | apply Kd.R_alloc | apply Kd.R_drewN | apply Kd.R_drew)); exact Kd.R_mono (Kd.R_far (p := ⟨gb498, 0, none⟩) (Kd.R_types HO_4.out BK498.out (by decide)) (fun _ hk => hk.2) (.slice Ao85 t494.length co85)) (fun _ hk => trivial)⟩, ⟨by (with_reducible repeat (first | apply Kd.R_alloc | apply Kd.R_drewN | apply Kd.R_drew)); exact Kd.R_mono (Kd.R_far (p := ⟨gb498, 0, none⟩) (Kd.R_types HO_12.out BK498.out (by decide)) (fun _ hk => hk.2) (.slice Ao85 t494.length co85)) (fun _ hk => ⟨hk.1.1, ⟨hk.1.2.1, hk.1.2.2⟩⟩)⟩, ⟨by (with_reducible repeat (first | apply Kd.R_alloc | apply Kd.R_drewN | apply Kd.R_drew)); exact Kd.R_mono (Kd.R_far (p := ⟨gb498, 0, none⟩) (Kd.R_types HO_16.out BK498.out (by decide)) (fun _ hk => hk.2) (.slice Ao85 t494.length co85)) (fun _ hk => ⟨hk.1.1, ⟨hk.1.2.1, hk.1.2.2⟩⟩)⟩, ⟨by (with_reducible repeat (first | apply Kd.R_alloc | apply Kd.R_drewN | apply Kd.R_drew)); exact Kd.R_mono (Kd.R_far (p := ⟨gb498, 0, none⟩) (Kd.R_types HO_20.out BK498.out (by decide)) (fun _ hk => hk.2) (.slice Ao85 t494.length co85)) (fun _ hk => ⟨hk.1.1, ⟨hk.1.2.1, hk.1.2.2⟩⟩)⟩, ⟨by (with_reducible repeat (first | apply Kd.R_alloc | apply Kd.R_drewN | apply Kd.R_drew)); exact Kd.R_mono (Kd.R_far (p := ⟨gb498, 0, none⟩) (Kd.R_types HO_26.out BK498.out (by decide)) (fun _ hk => hk.2) (.slice Ao85 t494.length co85)) (fun _ hk => ⟨hk.1.1, ⟨hk.1.2.1, hk.1.2.2⟩⟩)⟩, ⟨by (with_reducible repeat (first | apply Kd.R_alloc | apply Kd.R_drewN | apply Kd.R_drew)); exact Kd.R_mono (Kd.R_far (p := ⟨gb498, 0, none⟩) (Kd.R_types HO491.out BK498.out (by decide)) (fun _ hk => hk.2) (.slice Ao85 t494.length co85)) (fun _ hk => hk.1.2)⟩, ⟨by (with_reducible repeat (first | apply Kd.R_alloc | apply Kd.R_drewN | apply Kd.R_drew)); exact Kd.R_mono (Kd.R_far (p := ⟨gb498, 0, none⟩) (Kd.R_types HO496.out BK498.out (by decide)) (fun _ hk => hk.2) (.slice Ao85 t494.length co85)) (fun _ hk => hk.1.2)⟩, ⟨by (with_reducible repeat (first | refine blk_drewN ?_ _ | refine blk_drew ?_ | refine blk_alloc ?_ _)); refine blk_far ?_ NB493_498.out _; (with_reducible repeat (first | refine blk_drewN ?_ _ | refine blk_drew ?_ | refine blk_alloc ?_ _)); exact BK493.out⟩, ⟨by (with_reducible repeat (first | refine blk_drewN ?_ _ | refine blk_drew ?_ | refine blk_alloc ?_ _)); refine blk_put (cs := #[.slice none 0 0]) ?_ 0 _ rfl; (with_reducible repeat (first | refine blk_drewN ?_ _ | refine blk_drew ?_ | refine blk_alloc ?_ _)); exact BK498.out⟩, ⟨by repeat (first | (with_reducible first | exact HB.out | apply below_alloc | apply pw_below_drewN | apply below_drew1 | refine below_set ?_ GW493.out | refine below_set ?_ GW498.out) | exact HB.out)⟩⟩
        rw [if_neg c88] at H
        have c88b0 : (t492 != t497) = false := by simpa using c88
        (try (have c88b1 : decide (t492 = t497) = true := by simpa using c88))
        (try (have c88b2 : (t492 == t497) = true := by simpa using c88))
        clear c88
        (first | rw [c88b0] | (simp only [i64_w, i32_w]; rw [c88b0]) | skip)
        replace H := Option.bind_eq_some_iff.mp H
        obtain ⟨t499, A890, H⟩ := H
        replace H : (wF29.j6 kj66 t436 t437 t438 t447 t451 t460 t469 t478 t479 t480 t492 (!t499) t489) = some true := H
        have A89 := Aside0.mk A890
        clear A890
        have H' := Aside0.mk H
        clear H
        have hnb90 := NB493_498.out
        have hnc90 := NB498_493.out
        have hcz91_0 : w84.cell? ⟨gb493, 0, none⟩ = some (.slice Ao81 t489.length co81) := (blk_cell BK493.out 0).trans rfl
        have hfz91_0 := blk_frozen BK493.out 0
        have hcz92_0 : w84.cell? ⟨gb498, 0, none⟩ = some (.slice none 0 0) := (blk_cell BK498.out 0).trans rfl
        have hfz92_0 := blk_frozen BK498.out 0
        go_wp2_with (first | (go_at_call 25; (with_reducible refine (wF33.calls kj66 _ _ t489 _ _ t494 t499 _ ?side1 ?side2 ?side3 ?side4 A89.out).mono ?_); (case side1 => refine (Kd.R_reads' (e := 46) (base := w.heap.size) (ok := fun k_ => (True ∧ some k_ ≠ (.slice Ao85 t494.length co85 : Value).ownBlock)) (n := t489.length) (c := co81) ?_).2.2; exact (by (with_reducible repeat (first | apply Kd.R_alloc | apply Kd.R_drewN | apply Kd.R_drew)); exact (Kd.R_mono (Kd.R_far (p := ⟨gb498, 0, none⟩) (Kd.R_types HO491.out BK498.out (by decide)) (fun _ hk => hk.2) (.slice Ao85 t494.length co85)) (fun _ h_ => h_.1)))); (case side2 => exact (Kd.R_reads' HO491.out).2.1); (case side3 => refine (Kd.R_reads' (e := 46) (base := w.heap.size) (ok := fun k_ => (True ∧ some k_ ≠ (.slice Ao81 t489.length co81 : Value).ownBlock)) (n := t494.length) (c := co85) ?_).2.2; exact (by (with_reducible repeat (first | apply Kd.R_alloc | apply Kd.R_drewN | apply Kd.R_drew)); exact (Kd.R_mono (Kd.R_far (p := ⟨gb498, 0, none⟩) (Kd.R_types HO496.out BK498.out (by decide)) (fun _ hk => hk.2) (.slice Ao85 t494.length co85)) (fun _ h_ => h_.1)))); (case side4 => exact (Kd.R_reads' HO496.out).2.1); rintro e w93 ⟨rfl, hb⟩; have n0_ := Aside0.mk (Kd.R_below (by (with_reducible repeat (first | apply Kd.R_alloc | apply Kd.R_drewN | apply Kd.R_drew)); exact (Kd.R_mono (Kd.R_far (p := ⟨gb498, 0, none⟩) (Kd.R_types HO_4.out BK498.out (by decide)) (fun _ hk => hk.2) (.slice Ao85 t494.length co85)) (fun _ h_ => h_.1))) hb); have n1_ := Aside0.mk (Kd.R_below (by (with_reducible repeat (first | apply Kd.R_alloc | apply Kd.R_drewN | apply Kd.R_drew)); exact (Kd.R_mono (Kd.R_far (p := ⟨gb498, 0, none⟩) (Kd.R_types HO_12.out BK498.out (by decide)) (fun _ hk => hk.2) (.slice Ao85 t494.length co85)) (fun _ h_ => h_.1))) hb); have n2_ := Aside0.mk (Kd.R_below (by (with_reducible repeat (first | apply Kd.R_alloc | apply Kd.R_drewN | apply Kd.R_drew)); exact (Kd.R_mono (Kd.R_far (p := ⟨gb498, 0, none⟩) (Kd.R_types HO_16.out BK498.out (by decide)) (fun _ hk => hk.2) (.slice Ao85 t494.length co85)) (fun _ h_ => h_.1))) hb); have n3_ := Aside0.mk (Kd.R_below (by (with_reducible repeat (first | apply Kd.R_alloc | apply Kd.R_drewN | apply Kd.R_drew)); exact (Kd.R_mono (Kd.R_far (p := ⟨gb498, 0, none⟩) (Kd.R_types HO_20.out BK498.out (by decide)) (fun _ hk => hk.2) (.slice Ao85 t494.length co85)) (fun _ h_ => h_.1))) hb); have n4_ := Aside0.mk (Kd.R_below (by (with_reducible repeat (first | apply Kd.R_alloc | apply Kd.R_drewN | apply Kd.R_drew)); exact (Kd.R_mono (Kd.R_far (p := ⟨gb498, 0, none⟩) (Kd.R_types HO_26.out BK498.out (by decide)) (fun _ hk => hk.2) (.slice Ao85 t494.length co85)) (fun _ h_ => h_.1))) hb); have n5_ := Aside0.mk (Kd.R_below (by (with_reducible repeat (first | apply Kd.R_alloc | apply Kd.R_drewN | apply Kd.R_drew)); exact (Kd.R_mono (Kd.R_far (p := ⟨gb498, 0, none⟩) (Kd.R_types HO491.out BK498.out (by decide)) (fun _ hk => hk.2) (.slice Ao85 t494.length co85)) (fun _ h_ => h_.1))) hb); have n6_ := Aside0.mk (Kd.R_below (by (with_reducible repeat (first | apply Kd.R_alloc | apply Kd.R_drewN | apply Kd.R_drew)); exact (Kd.R_mono (Kd.R_far (p := ⟨gb498, 0, none⟩) (Kd.R_types HO496.out BK498.out (by decide)) (fun _ hk => hk.2) (.slice Ao85 t494.length co85)) (fun _ h_ => h_.1))) hb); have n7_ := Aside0.mk (blk_below (g := gb493) (o := .cells #[.slice Ao81 t489.length co81] 41 (0, 0)) (by (with_reducible repeat (first | refine blk_drewN ?_ _ | refine blk_drew ?_ | refine blk_alloc ?_ _)); refine blk_far ?_ NB493_498.out _; (with_reducible repeat (first | refine blk_drewN ?_ _ | refine blk_drew ?_ | refine blk_alloc ?_ _)); exact BK493.out) hb); have n8_ := Aside0.mk (blk_below (g := gb498) (o := .cells #[.slice Ao85 t494.length co85] 41 (0, 0)) (by (with_reducible repeat (first | refine blk_drewN ?_ _ | refine blk_drew ?_ | refine blk_alloc ?_ _)); refine blk_put (cs := #[.slice none 0 0]) ?_ 0 _ rfl; (with_reducible repeat (first | refine blk_drewN ?_ _ | refine blk_drew ?_ | refine blk_alloc ?_ _)); exact BK498.out) hb); have n9_ := Aside0.mk (below_step (by repeat (first | (with_reducible first | exact HB.out | apply below_alloc | apply pw_below_drewN | apply below_drew1 | refine below_set ?_ GW493.out | refine below_set ?_ GW498.out) | exact HB.out)) hb); clear HO_4; clear HO_12; clear HO_16; clear HO_20; clear HO_26; clear HO491; clear HO496; clear BK493; clear BK498; clear HB; have HO_4 := n0_; have HO_12 := n1_; have HO_16 := n2_; have HO_20 := n3_; have HO_26 := n4_; have HO491 := n5_; have HO496 := n6_; have BK493 := n7_; have BK498 := n8_; have HB := n9_; clear n0_ n1_ n2_ n3_ n4_ n5_ n6_ n7_ n8_ n9_; (try clear hb); (try clear hb2); (try clear hk); (try clear hi)))
        repeat (go_quiet (first | (go_at_call 25; (with_reducible refine (wF33.calls kj66 _ _ t489 _ _ t494 t499 _ ?side1 ?side2 ?side3 ?side4 A89.out).mono ?_); (case side1 => refine (Kd.R_reads' (e := 46) (base := w.heap.size) (ok := fun k_ => (True ∧ some k_ ≠ (.slice Ao85 t494.length co85 : Value).ownBlock)) (n := t489.length) (c := co81) ?_).2.2; exact (by (with_reducible repeat (first | apply Kd.R_alloc | apply Kd.R_drewN | apply Kd.R_drew)); exact (Kd.R_mono (Kd.R_far (p := ⟨gb498, 0, none⟩) (Kd.R_types HO491.out BK498.out (by decide)) (fun _ hk => hk.2) (.slice Ao85 t494.length co85)) (fun _ h_ => h_.1)))); (case side2 => exact (Kd.R_reads' HO491.out).2.1); (case side3 => refine (Kd.R_reads' (e := 46) (base := w.heap.size) (ok := fun k_ => (True ∧ some k_ ≠ (.slice Ao81 t489.length co81 : Value).ownBlock)) (n := t494.length) (c := co85) ?_).2.2; exact (by (with_reducible repeat (first | apply Kd.R_alloc | apply Kd.R_drewN | apply Kd.R_drew)); exact (Kd.R_mono (Kd.R_far (p := ⟨gb498, 0, none⟩) (Kd.R_types HO496.out BK498.out (by decide)) (fun _ hk => hk.2) (.slice Ao85 t494.length co85)) (fun _ h_ => h_.1)))); (case side4 => exact (Kd.R_reads' HO496.out).2.1); rintro e w93 ⟨rfl, hb⟩; have n0_ := Aside0.mk (Kd.R_below (by (with_reducible repeat (first | apply Kd.R_alloc | apply Kd.R_drewN | apply Kd.R_drew)); exact (Kd.R_mono (Kd.R_far (p := ⟨gb498, 0, none⟩) (Kd.R_types HO_4.out BK498.out (by decide)) (fun _ hk => hk.2) (.slice Ao85 t494.length co85)) (fun _ h_ => h_.1))) hb); have n1_ := Aside0.mk (Kd.R_below (by (with_reducible repeat (first | apply Kd.R_alloc | apply Kd.R_drewN | apply Kd.R_drew)); exact (Kd.R_mono (Kd.R_far (p := ⟨gb498, 0, none⟩) (Kd.R_types HO_12.out BK498.out (by decide)) (fun _ hk => hk.2) (.slice Ao85 t494.length co85)) (fun _ h_ => h_.1))) hb); have n2_ := Aside0.mk (Kd.R_below (by (with_reducible repeat (first | apply Kd.R_alloc | apply Kd.R_drewN | apply Kd.R_drew)); exact (Kd.R_mono (Kd.R_far (p := ⟨gb498, 0, none⟩) (Kd.R_types HO_16.out BK498.out (by decide)) (fun _ hk => hk.2) (.slice Ao85 t494.length co85)) (fun _ h_ => h_.1))) hb); have n3_ := Aside0.mk (Kd.R_below (by (with_reducible repeat (first | apply Kd.R_alloc | apply Kd.R_drewN | apply Kd.R_drew)); exact (Kd.R_mono (Kd.R_far (p := ⟨gb498, 0, none⟩) (Kd.R_types HO_20.out BK498.out (by decide)) (fun _ hk => hk.2) (.slice Ao85 t494.length co85)) (fun _ h_ => h_.1))) hb); have n4_ := Aside0.mk (Kd.R_below (by (with_reducible repeat (first | apply Kd.R_alloc | apply Kd.R_drewN | apply Kd.R_drew)); exact (Kd.R_mono (Kd.R_far (p := ⟨gb498, 0, none⟩) (Kd.R_types HO_26.out BK498.out (by decide)) (fun _ hk => hk.2) (.slice Ao85 t494.length co85)) (fun _ h_ => h_.1))) hb); have n5_ := Aside0.mk (Kd.R_below (by (with_reducible repeat (first | apply Kd.R_alloc | apply Kd.R_drewN | apply Kd.R_drew)); exact (Kd.R_mono (Kd.R_far (p := ⟨gb498, 0, none⟩) (Kd.R_types HO491.out BK498.out (by decide)) (fun _ hk => hk.2) (.slice Ao85 t494.length co85)) (fun _ h_ => h_.1))) hb); have n6_ := Aside0.mk (Kd.R_below (by (with_reducible repeat (first | apply Kd.R_alloc | apply Kd.R_drewN | apply Kd.R_drew)); exact (Kd.R_mono (Kd.R_far (p := ⟨gb498, 0, none⟩) (Kd.R_types HO496.out BK498.out (by decide)) (fun _ hk => hk.2) (.slice Ao85 t494.length co85)) (fun _ h_ => h_.1))) hb); have n7_ := Aside0.mk (blk_below (g := gb493) (o := .cells #[.slice Ao81 t489.length co81] 41 (0, 0)) (by (with_reducible repeat (first | refine blk_drewN ?_ _ | refine blk_drew ?_ | refine blk_alloc ?_ _)); refine blk_far ?_ NB493_498.out _; (with_reducible repeat (first | refine blk_drewN ?_ _ | refine blk_drew ?_ | refine blk_alloc ?_ _)); exact BK493.out) hb); have n8_ := Aside0.mk (blk_below (g := gb498) (o := .cells #[.slice Ao85 t494.length co85] 41 (0, 0)) (by (with_reducible repeat (first | refine blk_drewN ?_ _ | refine blk_drew ?_ | refine blk_alloc ?_ _)); refine blk_put (cs := #[.slice none 0 0]) ?_ 0 _ rfl; (with_reducible repeat (first | refine blk_drewN ?_ _ | refine blk_drew ?_ | refine blk_alloc ?_ _)); exact BK498.out) hb); have n9_ := Aside0.mk (below_step (by repeat (first | (with_reducible first | exact HB.out | apply below_alloc | apply pw_below_drewN | apply below_drew1 | refine below_set ?_ GW493.out | refine below_set ?_ GW498.out) | exact HB.out)) hb); clear HO_4; clear HO_12; clear HO_16; clear HO_20; clear HO_26; clear HO491; clear HO496; clear BK493; clear BK498; clear HB; have HO_4 := n0_; have HO_12 := n1_; have HO_16 := n2_; have HO_20 := n3_; have HO_26 := n4_; have HO491 := n5_; have HO496 := n6_; have BK493 := n7_; have BK498 := n8_; have HB := n9_; clear n0_ n1_ n2_ n3_ n4_ n5_ n6_ n7_ n8_ n9_; (try clear hb); (try clear hb2); (try clear hk); (try clear hi))); try go_wp2_with (first | (go_at_call 25; (with_reducible refine (wF33.calls kj66 _ _ t489 _ _ t494 t499 _ ?side1 ?side2 ?side3 ?side4 A89.out).mono ?_); (case side1 => refine (Kd.R_reads' (e := 46) (base := w.heap.size) (ok := fun k_ => (True ∧ some k_ ≠ (.slice Ao85 t494.length co85 : Value).ownBlock)) (n := t489.length) (c := co81) ?_).2.2; exact (by (with_reducible repeat (first | apply Kd.R_alloc | apply Kd.R_drewN | apply Kd.R_drew)); exact (Kd.R_mono (Kd.R_far (p := ⟨gb498, 0, none⟩) (Kd.R_types HO491.out BK498.out (by decide)) (fun _ hk => hk.2) (.slice Ao85 t494.length co85)) (fun _ h_ => h_.1)))); (case side2 => exact (Kd.R_reads' HO491.out).2.1); (case side3 => refine (Kd.R_reads' (e := 46) (base := w.heap.size) (ok := fun k_ => (True ∧ some k_ ≠ (.slice Ao81 t489.length co81 : Value).ownBlock)) (n := t494.length) (c := co85) ?_).2.2; exact (by (with_reducible repeat (first | apply Kd.R_alloc | apply Kd.R_drewN | apply Kd.R_drew)); exact (Kd.R_mono (Kd.R_far (p := ⟨gb498, 0, none⟩) (Kd.R_types HO496.out BK498.out (by decide)) (fun _ hk => hk.2) (.slice Ao85 t494.length co85)) (fun _ h_ => h_.1)))); (case side4 => exact (Kd.R_reads' HO496.out).2.1); rintro e w93 ⟨rfl, hb⟩; have n0_ := Aside0.mk (Kd.R_below (by (with_reducible repeat (first | apply Kd.R_alloc | apply Kd.R_drewN | apply Kd.R_drew)); exact (Kd.R_mono (Kd.R_far (p := ⟨gb498, 0, none⟩) (Kd.R_types HO_4.out BK498.out (by decide)) (fun _ hk => hk.2) (.slice Ao85 t494.length co85)) (fun _ h_ => h_.1))) hb); have n1_ := Aside0.mk (Kd.R_below (by (with_reducible repeat (first | apply Kd.R_alloc | apply Kd.R_drewN | apply Kd.R_drew)); exact (Kd.R_mono (Kd.R_far (p := ⟨gb498, 0, none⟩) (Kd.R_types HO_12.out BK498.out (by decide)) (fun _ hk => hk.2) (.slice Ao85 t494.length co85)) (fun _ h_ => h_.1))) hb); have n2_ := Aside0.mk (Kd.R_below (by (with_reducible repeat (first | apply Kd.R_alloc | apply Kd.R_drewN | apply Kd.R_drew)); exact (Kd.R_mono (Kd.R_far (p := ⟨gb498, 0, none⟩) (Kd.R_types HO_16.out BK498.out (by decide)) (fun _ hk => hk.2) (.slice Ao85 t494.length co85)) (fun _ h_ => h_.1))) hb); have n3_ := Aside0.mk (Kd.R_below (by (with_reducible repeat (first | apply Kd.R_alloc | apply Kd.R_drewN | apply Kd.R_drew)); exact (Kd.R_mono (Kd.R_far (p := ⟨gb498, 0, none⟩) (Kd.R_types HO_20.out BK498.out (by decide)) (fun _ hk => hk.2) (.slice Ao85 t494.length co85)) (fun _ h_ => h_.1))) hb); have n4_ := Aside0.mk (Kd.R_below (by (with_reducible repeat (first | apply Kd.R_alloc | apply Kd.R_drewN | apply Kd.R_drew)); exact (Kd.R_mono (Kd.R_far (p := ⟨gb498, 0, none⟩) (Kd.R_types HO_26.out BK498.out (by decide)) (fun _ hk => hk.2) (.slice Ao85 t494.length co85)) (fun _ h_ => h_.1))) hb); have n5_ := Aside0.mk (Kd.R_below (by (with_reducible repeat (first | apply Kd.R_alloc | apply Kd.R_drewN | apply Kd.R_drew)); exact (Kd.R_mono (Kd.R_far (p := ⟨gb498, 0, none⟩) (Kd.R_types HO491.out BK498.out (by decide)) (fun _ hk => hk.2) (.slice Ao85 t494.length co85)) (fun _ h_ => h_.1))) hb); have n6_ := Aside0.mk (Kd.R_below (by (with_reducible repeat (first | apply Kd.R_alloc | apply Kd.R_drewN | apply Kd.R_drew)); exact (Kd.R_mono (Kd.R_far (p := ⟨gb498, 0, none⟩) (Kd.R_types HO496.out BK498.out (by decide)) (fun _ hk => hk.2) (.slice Ao85 t494.length co85)) (fun _ h_ => h_.1))) hb); have n7_ := Aside0.mk (blk_below (g := gb493) (o := .cells #[.slice Ao81 t489.length co81] 41 (0, 0)) (by (with_reducible repeat (first | refine blk_drewN ?_ _ | refine blk_drew ?_ | refine blk_alloc ?_ _)); refine blk_far ?_ NB493_498.out _; (with_reducible repeat (first | refine blk_drewN ?_ _ | refine blk_drew ?_ | refine blk_alloc ?_ _)); exact BK493.out) hb); have n8_ := Aside0.mk (blk_below (g := gb498) (o := .cells #[.slice Ao85 t494.length co85] 41 (0, 0)) (by (with_reducible repeat (first | refine blk_drewN ?_ _ | refine blk_drew ?_ | refine blk_alloc ?_ _)); refine blk_put (cs := #[.slice none 0 0]) ?_ 0 _ rfl; (with_reducible repeat (first | refine blk_drewN ?_ _ | refine blk_drew ?_ | refine blk_alloc ?_ _)); exact BK498.out) hb); have n9_ := Aside0.mk (below_step (by repeat (first | (with_reducible first | exact HB.out | apply below_alloc | apply pw_below_drewN | apply below_drew1 | refine below_set ?_ GW493.out | refine below_set ?_ GW498.out) | exact HB.out)) hb); clear HO_4; clear HO_12; clear HO_16; clear HO_20; clear HO_26; clear HO491; clear HO496; clear BK493; clear BK498; clear HB; have HO_4 := n0_; have HO_12 := n1_; have HO_16 := n2_; have HO_20 := n3_; have HO_26 := n4_; have HO491 := n5_; have HO496 := n6_; have BK493 := n7_; have BK498 := n8_; have HB := n9_; clear n0_ n1_ n2_ n3_ n4_ n5_ n6_ n7_ n8_ n9_; (try clear hb); (try clear hb2); (try clear hk); (try clear hi))))
        go_meet
        case rel => exact ⟨_, (!t499), (by first | rfl | (simp; done) | (simp [*]; done)), H', ⟨by have := HJ6.out; have := HJ21.out; have := HJ32.out; have := HJ43.out; have := HJ54.out; have := HJ66.out; first | omega | exact Nat.le_refl _⟩, ⟨by (with_reducible repeat (first | apply Kd.R_alloc | apply Kd.R_drewN | apply Kd.R_drew)); exact HO_4.out⟩, ⟨by (with_reducible repeat (first | apply Kd.R_alloc | apply Kd.R_drewN | apply Kd.R_drew)); exact HO_12.out⟩, ⟨by (with_reducible repeat (first | apply Kd.R_alloc | apply Kd.R_drewN | apply Kd.R_drew)); exact HO_16.out⟩, ⟨by (with_reducible repeat (first | apply Kd.R_alloc | apply Kd.R_drewN | apply Kd.R_drew)); exact HO_20.out⟩, ⟨by (with_reducible repeat (first | apply Kd.R_alloc | apply Kd.R_drewN | apply Kd.R_drew)); exact HO_26.out⟩, ⟨by (with_reducible repeat (first | apply Kd.R_alloc | apply Kd.R_drewN | apply Kd.R_drew)); exact Kd.R_mono HO491.out (fun _ hk => hk.2)⟩, ⟨by (with_reducible repeat (first | apply Kd.R_alloc | apply Kd.R_drewN | apply Kd.R_drew)); exact Kd.R_mono HO496.out (fun _ hk => hk.2)⟩, ⟨by (with_reducible repeat (first | refine blk_drewN ?_ _ | refine blk_drew ?_ | refine blk_alloc ?_ _)); exact BK493.out⟩, ⟨by (with_reducible repeat (first | refine blk_drewN ?_ _ | refine blk_drew ?_ | refine blk_alloc ?_ _)); exact BK498.out⟩, ⟨by repeat (first | (with_reducible first | exact HB.out | apply below_alloc | apply pw_below_drewN | apply below_drew1 | refine below_set ?_ GW493.out | refine below_set ?_ GW498.out) | exact HB.out)⟩⟩
       clear HC78
       try clear c1
       try clear c2
       try clear p2
       try clear c3
       try clear c4
       try clear c5
       try clear c6
       try clear c7
       try clear c8
       try clear c9
       try clear c11
       try clear c11b0
       try clear c11b1
       try clear c11b2
       try clear c13
       try clear c13b0
       try clear c13b1
       try clear c13b2
       try clear c19
       try clear c25
       try clear c25b0
       try clear c25b1
       try clear c26
       try clear c26b0
       try clear c26b1
       try clear c26b2
       try clear c27
       try clear c27b0
       try clear c27b1
       try clear c27b2
       try clear c28
       try clear c30
       try clear c36
       try clear c36b0
       try clear c36b1
       try clear c36b2
       try clear c37
       try clear c37b0
       try clear c37b1
       try clear c37b2
       try clear c41
       try clear c47
       try clear c47b0
       try clear c47b1
       try clear c47b2
       try clear c48
       try clear c48b0
       try clear c48b1
       try clear c48b2
       try clear c52
       try clear c58
       try clear c58b0
       try clear c58b1
       try clear c58b2
       try clear c59
       try clear c59b0
       try clear c59b1
       try clear c59b2
       try clear c63
       try clear c71
       try clear c71b0
       try clear c71b1
       try clear c71b2
       try clear c75
       try clear c86
       try clear c88
       try clear c88b0
       try clear c88b1
       try clear c88b2
       try clear c90
       try clear hcz82_0
       try clear hcz87_0
       try clear hcz91_0
       try clear hcz92_0
       try clear hfz82_0
       try clear hfz87_0
       try clear hfz91_0
       try clear hfz92_0
       try clear p2
       obtain ⟨kq, x220_77, rfl, HA, HJ77, HO_4, HO_12, HO_16, HO_20, HO_26, HO_494000, HO_499000, BK493, BK498, HB⟩ := hcut
       cases kq with
       | zero => exact absurd HA.out (by simp [wF29.j6])
       | succ kj77 =>
        have H := HA.out
        clear HA
        simp only [wF29.j6] at H
        by_cases c94 : x220_77 = true
        ·
         subst c94
         replace H : (some false) = some true := by rw [if_pos rfl] at H; exact H
         exact absurd (Option.some.inj H) Bool.false_ne_true
        replace c94 := Bool.eq_false_iff.mpr c94
        subst c94
        replace H : (if t492 = true then (if (t489.length : Int) = (wrap64 (t447 + 1)) then (wF29.l0 kj77 t436 t437 t438 t447 t451 t460 t469 t478 t479 t480 0 t489) else (some false)) else (wF29.j8 kj77 t436 t437 t438 t447 t451 t460 t469 t478 t479 t480)) = some true := by rw [if_neg (show ¬ (false = true) by decide)] at H; exact H
        have HC95 := Aside0.mk H
        clear H
        go_upto_if 221 with (fail)
        repeat (go_quiet (fail); go_upto_if 221 with (fail))
        go_cut [] from 100000 (fun wc => ∃ (kq : Nat), Aside0 (wF29.j8 kq t436 t437 t438 t447 t451 t460 t469 t478 t479 t480 = some true) ∧ Aside0 (kq ≤ kj77) ∧ Aside0 (Kd.R Kd.string 9 wc w.heap.size (fun _ => True) v439 t437) ∧ Aside0 (Kd.R (Kd.int .i64) 3 wc w.heap.size (fun k_ => some k_ ≠ (v462 : Value).ownBlock ∧ some k_ ≠ (v471 : Value).ownBlock ∧ some k_ ≠ (v482 : Value).ownBlock) v453 t451) ∧ Aside0 (Kd.R (Kd.int .i64) 3 wc w.heap.size (fun k_ => some k_ ≠ (v453 : Value).ownBlock ∧ some k_ ≠ (v471 : Value).ownBlock ∧ some k_ ≠ (v482 : Value).ownBlock) v462 t460) ∧ Aside0 (Kd.R (Kd.int .i64) 3 wc w.heap.size (fun k_ => some k_ ≠ (v453 : Value).ownBlock ∧ some k_ ≠ (v462 : Value).ownBlock ∧ some k_ ≠ (v482 : Value).ownBlock) v471 t469) ∧ Aside0 (Kd.R (Kd.int .i64) 3 wc w.heap.size (fun k_ => some k_ ≠ (v453 : Value).ownBlock ∧ some k_ ≠ (v462 : Value).ownBlock ∧ some k_ ≠ (v471 : Value).ownBlock) v482 t480) ∧ Aside0 (Kd.R k46 46 wc w.heap.size (fun k_ => some k_ ≠ ((.slice Ao85 t494.length co85) : Value).ownBlock) (.slice Ao81 t489.length co81) t489) ∧ Aside0 (Kd.R k46 46 wc w.heap.size (fun k_ => some k_ ≠ ((.slice Ao81 t489.length co81) : Value).ownBlock) (.slice Ao85 t494.length co85) t494) ∧ Aside0 (wc.heap[gb493]? = some (.cells #[(.slice Ao81 t489.length co81)] 41 (0, 0))) ∧ Aside0 (wc.heap[gb498]? = some (.cells #[(.slice Ao85 t494.length co85)] 41 (0, 0))) ∧ Aside0 (Below w.heap.size w wc))
        case first =>
         have H := HC95.out
         clear HC95
         by_cases c96 : t492 = true
         rotate_left
         ·
          replace c96 := Bool.eq_false_iff.mpr c96
          subst c96
          replace H : (wF29.j8 kj77 t436 t437 t438 t447 t451 t460 t469 t478 t479 t480) = some true := by rw [if_neg (show ¬ (false = true) by decide)] at H; exact H
          have H' := Aside0.mk H
          clear H
          go_wp2
          repeat (go_quiet (fail); try go_wp2)
          go_meet
          case rel => exact ⟨_, H', ⟨by have := HJ6.out; have := HJ21.out; have := HJ32.out; have := HJ43.out; have := HJ54.out; have := HJ66.out; have := HJ77.out; first | omega | exact Nat.le_refl _⟩, ⟨by (with_reducible repeat (first | apply Kd.R_alloc | apply Kd.R_drewN | apply Kd.R_drew)); exact HO_4.out⟩, ⟨by (with_reducible repeat (first | apply Kd.R_alloc | apply Kd.R_drewN | apply Kd.R_drew)); exact HO_12.out⟩, ⟨by (with_reducible repeat (first | apply Kd.R_alloc | apply Kd.R_drewN | apply Kd.R_drew)); exact HO_16.out⟩, ⟨by (with_reducible repeat (first | apply Kd.R_alloc | apply Kd.R_drewN | apply Kd.R_drew)); exact HO_20.out⟩, ⟨by (with_reducible repeat (first | apply Kd.R_alloc | apply Kd.R_drewN | apply Kd.R_drew)); exact HO_26.out⟩, ⟨by (with_reducible repeat (first | apply Kd.R_alloc | apply Kd.R_drewN | apply Kd.R_drew)); exact HO_494000.out⟩, ⟨by (with_reducible repeat (first | apply Kd.R_alloc | apply Kd.R_drewN | apply Kd.R_drew)); exact HO_499000.out⟩, ⟨by (with_reducible repeat (first | refine blk_drewN ?_ _ | refine blk_drew ?_ | refine blk_alloc ?_ _)); exact BK493.out⟩, ⟨by (with_reducible repeat (first | refine blk_drewN ?_ _ | refine blk_drew ?_ | refine blk_alloc ?_ _)); exact BK498.out⟩, ⟨by repeat (first | (with_reducible first | exact HB.out | apply below_alloc | apply pw_below_drewN | apply below_drew1 | refine below_set ?_ GW493.out | refine below_set ?_ GW498.out) | exact HB.out)⟩⟩
         subst c96
         replace H : (if (t489.length : Int) = (wrap64 (t447 + 1)) then (wF29.l0 kj77 t436 t437 t438 t447 t451 t460 t469 t478 t479 t480 0 t489) else (some false)) = some true := by rw [if_pos rfl] at H; exact H
         by_cases c97 : (t489.length : Int) = (wrap64 (t447 + 1))
         rotate_left
         ·
          rw [if_neg c97] at H
          have c97b0 : ((t489.length : Int) == (wrap64 (t447 + 1))) = false := beq_eq_false_iff_ne.mpr c97
          have c97b1 : ((t489.length : Int) != (wrap64 (t447 + 1))) = true := bne_iff_ne.mpr c97
          (first | rw [c97b0] | (simp only [i64_w, i32_w]; rw [c97b0]) | skip)
          exact absurd (Option.some.inj H) Bool.false_ne_true
         rw [if_pos c97] at H
         have c97b0 : ((t489.length : Int) == (wrap64 (t447 + 1))) = true := beq_iff_eq.mpr c97
         have c97b1 : ((t489.length : Int) != (wrap64 (t447 + 1))) = false := bne_eq_false_iff_eq.mpr c97
         clear c97
         (first | rw [c97b0] | (simp only [i64_w, i32_w]; rw [c97b0]) | skip)
         have H' := Aside0.mk H
         clear H
         have hnb98 := NB493_498.out
         have hnc98 := NB498_493.out
         have hcz99_0 : wc.cell? ⟨gb493, 0, none⟩ = some (.slice Ao81 t489.length co81) := (blk_cell BK493.out 0).trans rfl
         have hfz99_0 := blk_frozen BK493.out 0
         go_wp2
         repeat (go_quiet (fail); try go_wp2)
         go_loopg [34] kj77 (fun kq v34 w' => ∃ (x34_8 : Int), v34 = .int .i64 x34_8 ∧ Aside0 (wF29.l0 kq t436 t437 t438 t447 t451 t460 t469 t478 t479 t480 x34_8 t489 = some true) ∧ Aside0 (kq ≤ kj77) ∧ Aside0 (Kd.R Kd.string 9 w' w.heap.size (fun _ => True) v439 t437) ∧ Aside0 (Kd.R (Kd.int .i64) 3 w' w.heap.size (fun k_ => some k_ ≠ (v462 : Value).ownBlock ∧ some k_ ≠ (v471 : Value).ownBlock ∧ some k_ ≠ (v482 : Value).ownBlock) v453 t451) ∧ Aside0 (Kd.R (Kd.int .i64) 3 w' w.heap.size (fun k_ => some k_ ≠ (v453 : Value).ownBlock ∧ some k_ ≠ (v471 : Value).ownBlock ∧ some k_ ≠ (v482 : Value).ownBlock) v462 t460) ∧ Aside0 (Kd.R (Kd.int .i64) 3 w' w.heap.size (fun k_ => some k_ ≠ (v453 : Value).ownBlock ∧ some k_ ≠ (v462 : Value).ownBlock ∧ some k_ ≠ (v482 : Value).ownBlock) v471 t469) ∧ Aside0 (Kd.R (Kd.int .i64) 3 w' w.heap.size (fun k_ => some k_ ≠ (v453 : Value).ownBlock ∧ some k_ ≠ (v462 : Value).ownBlock ∧ some k_ ≠ (v471 : Value).ownBlock) v482 t480) ∧ Aside0 (Kd.R k46 46 w' w.heap.size (fun k_ => some k_ ≠ ((.slice Ao85 t494.length co85) : Value).ownBlock) (.slice Ao81 t489.length co81) t489) ∧ Aside0 (Kd.R k46 46 w' w.heap.size (fun k_ => some k_ ≠ ((.slice Ao81 t489.length co81) : Value).ownBlock) (.slice Ao85 t494.length co85) t494) ∧ Aside0 (w'.heap[gb493]? = some (.cells #[(.slice Ao81 t489.length co81)] 41 (0, 0))) ∧ Aside0 (w'.heap[gb498]? = some (.cells #[(.slice Ao85 t494.length co85)] 41 (0, 0))) ∧ Aside0 (Below w.heap.size w w'))
         case atStart => exact ⟨(0), (by first | rfl | (simp; done) | (simp [*]; done)), H', ⟨Nat.le_refl _⟩, ⟨by (with_reducible repeat (first | apply Kd.R_alloc | apply Kd.R_drewN | apply Kd.R_drew)); exact HO_4.out⟩, ⟨by (with_reducible repeat (first | apply Kd.R_alloc | apply Kd.R_drewN | apply Kd.R_drew)); exact HO_12.out⟩, ⟨by (with_reducible repeat (first | apply Kd.R_alloc | apply Kd.R_drewN | apply Kd.R_drew)); exact HO_16.out⟩, ⟨by (with_reducible repeat (first | apply Kd.R_alloc | apply Kd.R_drewN | apply Kd.R_drew)); exact HO_20.out⟩, ⟨by (with_reducible repeat (first | apply Kd.R_alloc | apply Kd.R_drewN | apply Kd.R_drew)); exact HO_26.out⟩, ⟨by (with_reducible repeat (first | apply Kd.R_alloc | apply Kd.R_drewN | apply Kd.R_drew)); exact HO_494000.out⟩, ⟨by (with_reducible repeat (first | apply Kd.R_alloc | apply Kd.R_drewN | apply Kd.R_drew)); exact HO_499000.out⟩, ⟨by (with_reducible repeat (first | refine blk_drewN ?_ _ | refine blk_drew ?_ | refine blk_alloc ?_ _)); exact BK493.out⟩, ⟨by (with_reducible repeat (first | refine blk_drewN ?_ _ | refine blk_drew ?_ | refine blk_alloc ?_ _)); exact BK498.out⟩, ⟨by repeat (first | (with_reducible first | exact HB.out | apply below_alloc | apply pw_below_drewN | apply below_drew1 | refine below_set ?_ GW493.out | refine below_set ?_ GW498.out) | exact HB.out)⟩⟩
         clear H'
         try clear c1
         try clear c2
         try clear p2
         try clear c3
         try clear c4
         try clear c5
         try clear c6
         try clear p6
         try clear c7
         try clear c8
         try clear c9
         try clear c11
         try clear c11b0
         try clear c11b1
         try clear c11b2
         try clear c13
         try clear c13b0
         try clear c13b1
         try clear c13b2
         try clear c19
         try clear c25
         try clear c25b0
         try clear c25b1
         try clear c26
         try clear c26b0
         try clear c26b1
         try clear c26b2
         try clear c27
         try clear c27b0
         try clear c27b1
         try clear c27b2
         try clear c28
         try clear c30
         try clear c36
         try clear c36b0
         try clear c36b1
         try clear c36b2
         try clear c37
         try clear c37b0
         try clear c37b1
         try clear c37b2
         try clear c41
         try clear c47
         try clear c47b0
         try clear c47b1
         try clear c47b2
         try clear c48
         try clear c48b0
         try clear c48b1
         try clear c48b2
         try clear c52
         try clear c58
         try clear c58b0
         try clear c58b1
         try clear c58b2
         try clear c59
         try clear c59b0
         try clear c59b1
         try clear c59b2
         try clear c63
         try clear p64
         try clear c71
         try clear c71b0
         try clear c71b1
         try clear c71b2
         try clear c75
         try clear c86
         try clear c88
         try clear c88b0
         try clear c88b1
         try clear c88b2
         try clear c90
         try clear c94
         try clear c96
         try clear c97
         try clear c97b0
         try clear c97b1
         try clear c98
         try clear hcz82_0
         try clear hcz87_0
         try clear hcz91_0
         try clear hcz92_0
         try clear hcz99_0
         try clear hfz82_0
         try clear hfz87_0
         try clear hfz91_0
         try clear hfz92_0
         try clear hfz99_0
         try clear p2
         obtain ⟨x34_8, rfl, HA, HK8, HO_4, HO_12, HO_16, HO_20, HO_26, HO_494000, HO_499000, BK493, BK498, HB⟩ := hrel
         cases gk with
         | zero => exact absurd HA.out (by simp [wF29.l0])
         | succ k8 =>
          have H := HA.out
          clear HA
          simp only [wF29.l0] at H
          by_cases c100 : x34_8 < (t489.length : Int)
          rotate_left
          ·
           rw [if_neg c100] at H
           have c100b0 : decide (x34_8 < (t489.length : Int)) = false := dF_ c100
           clear c100
           have H' := Aside0.mk H
           clear H
           have hnb108 := NB493_498.out
           have hnc108 := NB498_493.out
           have hcz109_0 : wr.cell? ⟨gb493, 0, none⟩ = some (.slice Ao81 t489.length co81) := (blk_cell BK493.out 0).trans rfl
           have hfz109_0 := blk_frozen BK493.out 0
           go_wp2
           repeat (go_quiet (fail); try go_wp2)
           go_meet
           case rel => exact ⟨_, H', ⟨by have := HJ6.out; have := HJ21.out; have := HJ32.out; have := HJ43.out; have := HJ54.out; have := HJ66.out; have := HJ77.out; have := HK8.out; first | omega | exact Nat.le_refl _⟩, ⟨by (with_reducible repeat (first | apply Kd.R_alloc | apply Kd.R_drewN | apply Kd.R_drew)); exact HO_4.out⟩, ⟨by (with_reducible repeat (first | apply Kd.R_alloc | apply Kd.R_drewN | apply Kd.R_drew)); exact HO_12.out⟩, ⟨by (with_reducible repeat (first | apply Kd.R_alloc | apply Kd.R_drewN | apply Kd.R_drew)); exact HO_16.out⟩, ⟨by (with_reducible repeat (first | apply Kd.R_alloc | apply Kd.R_drewN | apply Kd.R_drew)); exact HO_20.out⟩, ⟨by (with_reducible repeat (first | apply Kd.R_alloc | apply Kd.R_drewN | apply Kd.R_drew)); exact HO_26.out⟩, ⟨by (with_reducible repeat (first | apply Kd.R_alloc | apply Kd.R_drewN | apply Kd.R_drew)); exact HO_494000.out⟩, ⟨by (with_reducible repeat (first | apply Kd.R_alloc | apply Kd.R_drewN | apply Kd.R_drew)); exact HO_499000.out⟩, ⟨by (with_reducible repeat (first | refine blk_drewN ?_ _ | refine blk_drew ?_ | refine blk_alloc ?_ _)); exact BK493.out⟩, ⟨by (with_reducible repeat (first | refine blk_drewN ?_ _ | refine blk_drew ?_ | refine blk_alloc ?_ _)); exact BK498.out⟩, ⟨by repeat (first | (with_reducible first | exact HB.out | apply below_alloc | apply pw_below_drewN | apply below_drew1 | refine below_set ?_ GW493.out | refine below_set ?_ GW498.out) | exact HB.out)⟩⟩
          rw [if_pos c100] at H
          have c100b0 : decide (x34_8 < (t489.length : Int)) = true := dT_ c100
          clear c100
          by_cases c101 : 0 ≤ x34_8
          rotate_left
          ·
           rw [if_neg c101] at H
           exact absurd H (by simp)
          rw [if_pos c101] at H
          have c101b0 : decide (0 ≤ x34_8) = true := dT_ c101
          clear c101
          obtain ⟨bq102, hbq102⟩ : ∃ b_ : Bool, b_ = ((rd_T46 t489 x34_8).f2) := ⟨_, rfl⟩
          replace H : (if (bq102 = true) then (wF29.l0 k8 t436 t437 t438 t447 t451 t460 t469 t478 t479 t480 (wrap64 (x34_8 + 1)) t489) else (some false)) = some true := by rw [← hbq102] at H; exact H
          have Nbq102 := Aside0.mk hbq102
          clear hbq102
          by_cases c103 : (bq102 = true)
          rotate_left
          ·
           replace c103 := Bool.eq_false_iff.mpr c103
           subst c103
           replace H : (some false) = some true := by rw [if_neg (show ¬ (false = true) by decide)] at H; exact H
           exact absurd (Option.some.inj H) Bool.false_ne_true
          subst c103
          replace H : (wF29.l0 k8 t436 t437 t438 t447 t451 t460 t469 t478 t479 t480 (wrap64 (x34_8 + 1)) t489) = some true := by rw [if_pos rfl] at H; exact H
          have H' := Aside0.mk H
          clear H
          have hnb104 := NB493_498.out
          have hnc104 := NB498_493.out
          have hcz105_0 : wr.cell? ⟨gb493, 0, none⟩ = some (.slice Ao81 t489.length co81) := (blk_cell BK493.out 0).trans rfl
          have hfz105_0 := blk_frozen BK493.out 0
          have p500 : 0 ≤ (x34_8 : Int) := oD_ (by first | (with_reducible assumption) | assumption)
          have q500 : x34_8 < (t489.length : Int) := oD_ (by first | (with_reducible assumption) | assumption)
          obtain ⟨ad500, e500, hx500_0, hx500_1, hx500_2⟩ := at_T46 (Kd.R_reads' HO_494000.out).2.2 x34_8 p500 q500
          (try rw [← Nbq102.out] at hx500_2)
          cases e500
          replace p500 := eq_true p500
          replace q500 := eq_true q500
          go_wp2
          repeat (go_quiet (fail); try go_wp2)
          go_roundg k8
          case measure => have := HJ6.out; have := HJ21.out; have := HJ32.out; have := HJ43.out; have := HJ54.out; have := HJ66.out; have := HJ77.out; have := HK8.out; omega
          case rel => exact ⟨(wrap64 (x34_8 + 1)), (by first | rfl | (simp; done) | (simp [*]; done)), H', ⟨by have := HJ6.out; have := HJ21.out; have := HJ32.out; have := HJ43.out; have := HJ54.out; have := HJ66.out; have := HJ77.out; have := HK8.out; omega⟩, ⟨by (with_reducible repeat (first | apply Kd.R_alloc | apply Kd.R_drewN | apply Kd.R_drew)); exact HO_4.out⟩, ⟨by (with_reducible repeat (first | apply Kd.R_alloc | apply Kd.R_drewN | apply Kd.R_drew)); exact HO_12.out⟩, ⟨by (with_reducible repeat (first | apply Kd.R_alloc | apply Kd.R_drewN | apply Kd.R_drew)); exact HO_16.out⟩, ⟨by (with_reducible repeat (first | apply Kd.R_alloc | apply Kd.R_drewN | apply Kd.R_drew)); exact HO_20.out⟩, ⟨by (with_reducible repeat (first | apply Kd.R_alloc | apply Kd.R_drewN | apply Kd.R_drew)); exact HO_26.out⟩, ⟨by (with_reducible repeat (first | apply Kd.R_alloc | apply Kd.R_drewN | apply Kd.R_drew)); exact HO_494000.out⟩, ⟨by (with_reducible repeat (first | apply Kd.R_alloc | apply Kd.R_drewN | apply Kd.R_drew)); exact HO_499000.out⟩, ⟨by (with_reducible repeat (first | refine blk_drewN ?_ _ | refine blk_drew ?_ | refine blk_alloc ?_ _)); exact BK493.out⟩, ⟨by (with_reducible repeat (first | refine blk_drewN ?_ _ | refine blk_drew ?_ | refine blk_alloc ?_ _)); exact BK498.out⟩, ⟨by repeat (first | (with_reducible first | exact HB.out | apply below_alloc | apply pw_below_drewN | apply below_drew1 | refine below_set ?_ GW493.out | refine below_set ?_ GW498.out) | exact HB.out)⟩⟩
        clear HC95
        try clear c1
        try clear q1
        try clear c2
        try clear p2
        try clear c3
        try clear c4
        try clear c5
        try clear p5
        try clear q5
        try clear hx5
        try clear c6
        try clear p6
        try clear c7
        try clear c8
        try clear c9
        try clear c10
        try clear q10
        try clear c11
        try clear c11b0
        try clear c11b1
        try clear c11b2
        try clear c13
        try clear c13b0
        try clear c13b1
        try clear c13b2
        try clear c19
        try clear c25
        try clear c25b0
        try clear c25b1
        try clear c26
        try clear c26b0
        try clear c26b1
        try clear c26b2
        try clear c27
        try clear c27b0
        try clear c27b1
        try clear c27b2
        try clear c28
        try clear c30
        try clear c36
        try clear c36b0
        try clear c36b1
        try clear c36b2
        try clear c37
        try clear c37b0
        try clear c37b1
        try clear c37b2
        try clear c41
        try clear c47
        try clear c47b0
        try clear c47b1
        try clear c47b2
        try clear c48
        try clear c48b0
        try clear c48b1
        try clear c48b2
        try clear p50
        try clear q50
        try clear hx50
        try clear c52
        try clear c58
        try clear c58b0
        try clear c58b1
        try clear c58b2
        try clear c59
        try clear c59b0
        try clear c59b1
        try clear c59b2
        try clear c63
        try clear p64
        try clear c71
        try clear c71b0
        try clear c71b1
        try clear c71b2
        try clear c75
        try clear c86
        try clear c88
        try clear c88b0
        try clear c88b1
        try clear c88b2
        try clear c90
        try clear c94
        try clear c96
        try clear c97
        try clear c97b0
        try clear c97b1
        try clear c98
        try clear c100
        try clear c100b0
        try clear c101
        try clear c101b0
        try clear q102
        try clear c103
        try clear c104
        try clear c106
        try clear c108
        try clear c110
        try clear hcz105_0
        try clear hcz107_0
        try clear hcz109_0
        try clear hcz111_0
        try clear hcz82_0
        try clear hcz87_0
        try clear hcz91_0
        try clear hcz92_0
        try clear hcz99_0
        try clear hfz105_0
        try clear hfz107_0
        try clear hfz109_0
        try clear hfz111_0
        try clear hfz82_0
        try clear hfz87_0
        try clear hfz91_0
        try clear hfz92_0
        try clear hfz99_0
        try clear hx500_0
        try clear hx500_1
        try clear hx500_2
        try clear p2
        try clear p500
        try clear p6
        try clear p64
        try clear q500
        obtain ⟨kq, HA, HJ94, HO_4, HO_12, HO_16, HO_20, HO_26, HO_494000, HO_499000, BK493, BK498, HB⟩ := hcut
        cases kq with
        | zero => exact absurd HA.out (by simp [wF29.j8])
        | succ kj94 =>
         have H := HA.out
         clear HA
         simp only [wF29.j8] at H
         have H' := Aside0.mk H
         clear H
         go_wp2
         repeat (go_quiet (fail); try go_wp2)
         go_loopg [35] kj94 (fun kq v35 w' => ∃ (x35_9 : Int), v35 = .int .i64 x35_9 ∧ Aside0 (wF29.l1 kq t436 t437 t438 t447 t451 t460 t469 t478 t479 t480 x35_9 = some true) ∧ Aside0 (kq ≤ kj94) ∧ Aside0 (Kd.R Kd.string 9 w' w.heap.size (fun _ => True) v439 t437) ∧ Aside0 (Kd.R (Kd.int .i64) 3 w' w.heap.size (fun k_ => some k_ ≠ (v462 : Value).ownBlock ∧ some k_ ≠ (v471 : Value).ownBlock ∧ some k_ ≠ (v482 : Value).ownBlock) v453 t451) ∧ Aside0 (Kd.R (Kd.int .i64) 3 w' w.heap.size (fun k_ => some k_ ≠ (v453 : Value).ownBlock ∧ some k_ ≠ (v471 : Value).ownBlock ∧ some k_ ≠ (v482 : Value).ownBlock) v462 t460) ∧ Aside0 (Kd.R (Kd.int .i64) 3 w' w.heap.size (fun k_ => some k_ ≠ (v453 : Value).ownBlock ∧ some k_ ≠ (v462 : Value).ownBlock ∧ some k_ ≠ (v482 : Value).ownBlock) v471 t469) ∧ Aside0 (Kd.R (Kd.int .i64) 3 w' w.heap.size (fun k_ => some k_ ≠ (v453 : Value).ownBlock ∧ some k_ ≠ (v462 : Value).ownBlock ∧ some k_ ≠ (v471 : Value).ownBlock) v482 t480) ∧ Aside0 (Kd.R k46 46 w' w.heap.size (fun k_ => some k_ ≠ ((.slice Ao85 t494.length co85) : Value).ownBlock) (.slice Ao81 t489.length co81) t489) ∧ Aside0 (Kd.R k46 46 w' w.heap.size (fun k_ => some k_ ≠ ((.slice Ao81 t489.length co81) : Value).ownBlock) (.slice Ao85 t494.length co85) t494) ∧ Aside0 (w'.heap[gb493]? = some (.cells #[(.slice Ao81 t489.length co81)] 41 (0, 0))) ∧ Aside0 (w'.heap[gb498]? = some (.cells #[(.slice Ao85 t494.length co85)] 41 (0, 0))) ∧ Aside0 (Below w.heap.size w w'))
         case atStart => exact ⟨(0), (by first | rfl | (simp; done) | (simp [*]; done)), H', ⟨Nat.le_refl _⟩, ⟨by (with_reducible repeat (first | apply Kd.R_alloc | apply Kd.R_drewN | apply Kd.R_drew)); exact HO_4.out⟩, ⟨by (with_reducible repeat (first | apply Kd.R_alloc | apply Kd.R_drewN | apply Kd.R_drew)); exact HO_12.out⟩, ⟨by (with_reducible repeat (first | apply Kd.R_alloc | apply Kd.R_drewN | apply Kd.R_drew)); exact HO_16.out⟩, ⟨by (with_reducible repeat (first | apply Kd.R_alloc | apply Kd.R_drewN | apply Kd.R_drew)); exact HO_20.out⟩, ⟨by (with_reducible repeat (first | apply Kd.R_alloc | apply Kd.R_drewN | apply Kd.R_drew)); exact HO_26.out⟩, ⟨by (with_reducible repeat (first | apply Kd.R_alloc | apply Kd.R_drewN | apply Kd.R_drew)); exact HO_494000.out⟩, ⟨by (with_reducible repeat (first | apply Kd.R_alloc | apply Kd.R_drewN | apply Kd.R_drew)); exact HO_499000.out⟩, ⟨by (with_reducible repeat (first | refine blk_drewN ?_ _ | refine blk_drew ?_ | refine blk_alloc ?_ _)); exact BK493.out⟩, ⟨by (with_reducible repeat (first | refine blk_drewN ?_ _ | refine blk_drew ?_ | refine blk_alloc ?_ _)); exact BK498.out⟩, ⟨by repeat (first | (with_reducible first | exact HB.out | apply below_alloc | apply pw_below_drewN | apply below_drew1 | refine below_set ?_ GW493.out | refine below_set ?_ GW498.out) | exact HB.out)⟩⟩
         clear H'
         try clear c1
         try clear q1
         try clear c2
         try clear p2
         try clear c3
         try clear c4
         try clear c5
         try clear p5
         try clear q5
         try clear hx5
         try clear c6
         try clear p6
         try clear c7
         try clear c8
         try clear c9
         try clear c10
         try clear q10
         try clear c11
         try clear c11b0
         try clear c11b1
         try clear c11b2
         try clear c13
         try clear c13b0
         try clear c13b1
         try clear c13b2
         try clear c19
         try clear c25
         try clear c25b0
         try clear c25b1
         try clear c26
         try clear c26b0
         try clear c26b1
         try clear c26b2
         try clear c27
         try clear c27b0
         try clear c27b1
         try clear c27b2
         try clear c28
         try clear c30
         try clear c36
         try clear c36b0
         try clear c36b1
         try clear c36b2
         try clear c37
         try clear c37b0
         try clear c37b1
         try clear c37b2
         try clear c41
         try clear c47
         try clear c47b0
         try clear c47b1
         try clear c47b2
         try clear c48
         try clear c48b0
         try clear c48b1
         try clear c48b2
         try clear p50
         try clear q50
         try clear hx50
         try clear c52
         try clear c58
         try clear c58b0
         try clear c58b1
         try clear c58b2
         try clear c59
         try clear c59b0
         try clear c59b1
         try clear c59b2
         try clear c63
         try clear p64
         try clear c71
         try clear c71b0
         try clear c71b1
         try clear c71b2
         try clear c75
         try clear c86
         try clear c88
         try clear c88b0
         try clear c88b1
         try clear c88b2
         try clear c90
         try clear c94
         try clear c96
         try clear c97
         try clear c97b0
         try clear c97b1
         try clear c98
         try clear c100
         try clear c100b0
         try clear c101
         try clear c101b0
         try clear q102
         try clear c103
         try clear c104
         try clear c106
         try clear c108
         try clear c110
         try clear hcz105_0
         try clear hcz107_0
         try clear hcz109_0
         try clear hcz111_0
         try clear hcz82_0
         try clear hcz87_0
         try clear hcz91_0
         try clear hcz92_0
         try clear hcz99_0
         try clear hfz105_0
         try clear hfz107_0
         try clear hfz109_0
         try clear hfz111_0
         try clear hfz82_0
         try clear hfz87_0
         try clear hfz91_0
         try clear hfz92_0
         try clear hfz99_0
         try clear hx500_0
         try clear hx500_1
         try clear hx500_2
         try clear p2
         try clear p5
         try clear p50
         try clear p500
         try clear p6
         try clear p64
         try clear q1
         try clear q10
         try clear q102
         try clear q5
         try clear q50
         try clear q500
         obtain ⟨x35_9, rfl, HA, HK9, HO_4, HO_12, HO_16, HO_20, HO_26, HO_494000, HO_499000, BK493, BK498, HB⟩ := hrel
         cases gk with
         | zero => exact absurd HA.out (by simp [wF29.l1])
         | succ k9 =>
          have H := HA.out
          clear HA
          simp only [wF29.l1] at H
          by_cases c112 : x35_9 < (t480.length : Int)
          ·
           rw [if_pos c112] at H
           have c112b0 : decide (x35_9 < (t480.length : Int)) = true := dT_ c112
           clear c112
           by_cases c113 : 0 ≤ x35_9
           rotate_left
           ·
            rw [if_neg c113] at H
            exact absurd H (by simp)
           rw [if_pos c113] at H
           have c113b0 : decide (0 ≤ x35_9) = true := dT_ c113
           clear c113
           by_cases c114 : 0 ≤ (rd t480 x35_9)
           rotate_left
           ·
            rw [if_neg c114] at H
            exact absurd H (by simp)
           rw [if_pos c114] at H
           have c114b0 := eq_true c114
           have c114b1 : decide (0 ≤ (rd t480 x35_9)) = true := dT_ c114
           clear c114
           by_cases c115 : (rd t480 x35_9) ≤ (wrap64 ((rd t480 x35_9) + (t479.size : Int)))
           rotate_left
           ·
            rw [if_neg c115] at H
            exact absurd H (by simp)
           rw [if_pos c115] at H
           have c115b0 := eq_true c115
           have c115b1 : decide ((rd t480 x35_9) ≤ (wrap64 ((rd t480 x35_9) + (t479.size : Int)))) = true := dT_ c115
           by_cases c116 : (wrap64 ((rd t480 x35_9) + (t479.size : Int))) ≤ (t478.size : Int)
           rotate_left
           ·
            rw [if_neg c116] at H
            exact absurd H (by simp)
           rw [if_pos c116] at H
           have c116b0 := eq_true c116
           have c116b1 : decide ((wrap64 ((rd t480 x35_9) + (t479.size : Int))) ≤ (t478.size : Int)) = true := dT_ c116
           by_cases c117 : (t478.extract ((rd t480 x35_9) : Int).toNat ((wrap64 ((rd t480 x35_9) + (t479.size : Int))) : Int).toNat).toList = t479.toList
           rotate_left
           ·
            rw [if_neg c117] at H
            have c117b0 : ((t478.extract ((rd t480 x35_9) : Int).toNat ((wrap64 ((rd t480 x35_9) + (t479.size : Int))) : Int).toNat).toList == t479.toList) = false := beq_eq_false_iff_ne.mpr c117
            have c117b1 : ((t478.extract ((rd t480 x35_9) : Int).toNat ((wrap64 ((rd t480 x35_9) + (t479.size : Int))) : Int).toNat).toList != t479.toList) = true := bne_iff_ne.mpr c117
            exact absurd (Option.some.inj H) Bool.false_ne_true
           rw [if_pos c117] at H
           have c117b0 : ((t478.extract ((rd t480 x35_9) : Int).toNat ((wrap64 ((rd t480 x35_9) + (t479.size : Int))) : Int).toNat).toList == t479.toList) = true := beq_iff_eq.mpr c117
           have c117b1 : ((t478.extract ((rd t480 x35_9) : Int).toNat ((wrap64 ((rd t480 x35_9) + (t479.size : Int))) : Int).toNat).toList != t479.toList) = false := bne_eq_false_iff_eq.mpr c117
           clear c117
           have H' := Aside0.mk H
           clear H
           obtain ⟨Ao118, co118, eo118⟩ := Kd.R_slice HO_26.out
           subst eo118
           have p501 : 0 ≤ (x35_9 : Int) := oD_ (by first | (with_reducible assumption) | assumption)
           have q501 : x35_9 < (t480.length : Int) := oD_ (by first | (with_reducible assumption) | assumption)
           obtain ⟨ad501, e501, hx501_0⟩ := Kd.at_int (Kd.R_reads' HO_26.out).2.2 x35_9 p501 q501
           cases e501
           replace p501 := eq_true p501
           replace q501 := eq_true q501
           have p502 : 0 ≤ (x35_9 : Int) := oD_ (by first | (with_reducible assumption) | assumption)
           have q502 : x35_9 < (t480.length : Int) := oD_ (by first | (with_reducible assumption) | assumption)
           obtain ⟨ad502, e502, hx502_0⟩ := Kd.at_int (Kd.R_reads' HO_26.out).2.2 x35_9 p502 q502
           obtain rfl : ad501 = ad502 := (by injection e502)
           replace p502 := eq_true p502
           replace q502 := eq_true q502
           go_wp2
           repeat (go_quiet (fail); try go_wp2)
           go_roundg k9
           case measure => have := HJ6.out; have := HJ21.out; have := HJ32.out; have := HJ43.out; have := HJ54.out; have := HJ66.out; have := HJ77.out; have := HJ94.out; have := HK9.out; omega
           case rel => exact ⟨(wrap64 (x35_9 + 1)), (by first | rfl | (simp; done) | (simp [*]; done)), H', ⟨by have := HJ6.out; have := HJ21.out; have := HJ32.out; have := HJ43.out; have := HJ54.out; have := HJ66.out; have := HJ77.out; have := HJ94.out; have := HK9.out; omega⟩, ⟨by (with_reducible repeat (first | apply Kd.R_alloc | apply Kd.R_drewN | apply Kd.R_drew)); exact HO_4.out⟩, ⟨by (with_reducible repeat (first | apply Kd.R_alloc | apply Kd.R_drewN | apply Kd.R_drew)); exact HO_12.out⟩, ⟨by (with_reducible repeat (first | apply Kd.R_alloc | apply Kd.R_drewN | apply Kd.R_drew)); exact HO_16.out⟩, ⟨by (with_reducible repeat (first | apply Kd.R_alloc | apply Kd.R_drewN | apply Kd.R_drew)); exact HO_20.out⟩, ⟨by (with_reducible repeat (first | apply Kd.R_alloc | apply Kd.R_drewN | apply Kd.R_drew)); exact HO_26.out⟩, ⟨by (with_reducible repeat (first | apply Kd.R_alloc | apply Kd.R_drewN | apply Kd.R_drew)); exact HO_494000.out⟩, ⟨by (with_reducible repeat (first | apply Kd.R_alloc | apply Kd.R_drewN | apply Kd.R_drew)); exact HO_499000.out⟩, ⟨by (with_reducible repeat (first | refine blk_drewN ?_ _ | refine blk_drew ?_ | refine blk_alloc ?_ _)); exact BK493.out⟩, ⟨by (with_reducible repeat (first | refine blk_drewN ?_ _ | refine blk_drew ?_ | refine blk_alloc ?_ _)); exact BK498.out⟩, ⟨by repeat (first | (with_reducible first | exact HB.out | apply below_alloc | apply pw_below_drewN | apply below_drew1 | refine below_set ?_ GW493.out | refine below_set ?_ GW498.out) | exact HB.out)⟩⟩
          rw [if_neg c112] at H
          have c112b0 : decide (x35_9 < (t480.length : Int)) = false := dF_ c112
          clear c112
          by_cases c120 : t438 = true
          rotate_left
          ·
           replace c120 := Bool.eq_false_iff.mpr c120
           subst c120
           replace H : (some true) = some true := rfl
           first | obtain rfl := Option.some.inj H | clear H
           obtain ⟨Ao151, co151, eo151⟩ := Kd.R_slice HO_26.out
           subst eo151
           go_wp2
           repeat (go_quiet (fail); try go_wp2)
           go_ret
           exact ⟨by first | rfl | (simp [errW_none, errW_some] <;> rfl) | (simp [*, errW_none, errW_some] <;> rfl), by repeat (first | (with_reducible first | exact HB.out | apply below_alloc | apply pw_below_drewN | apply below_drew1 | refine below_set ?_ GW493.out | refine below_set ?_ GW498.out) | exact HB.out)⟩
          subst c120
          replace H : (wF29.l2 k9 t436 t437 t447 t451 t460 t469 0 0 0) = some true := by rw [if_pos rfl] at H; exact H
          have H' := Aside0.mk H
          clear H
          obtain ⟨Ao121, co121, eo121⟩ := Kd.R_slice HO_26.out
          subst eo121
          go_wp2
          repeat (go_quiet (fail); try go_wp2)
          go_loopg [36, 38] k9 (fun kq v36 v38 w' => ∃ (x36_10 : Int) (x38_10 : Int), v36 = .int .i64 x36_10 ∧ v38 = .int .i64 x38_10 ∧ Aside0 (wF29.l2 kq t436 t437 t447 t451 t460 t469 x36_10 0 x38_10 = some true) ∧ Aside0 (kq ≤ k9) ∧ Aside0 (Kd.R Kd.string 9 w' w.heap.size (fun _ => True) v439 t437) ∧ Aside0 (Kd.R (Kd.int .i64) 3 w' w.heap.size (fun k_ => some k_ ≠ (v462 : Value).ownBlock ∧ some k_ ≠ (v471 : Value).ownBlock) v453 t451) ∧ Aside0 (Kd.R (Kd.int .i64) 3 w' w.heap.size (fun k_ => some k_ ≠ (v453 : Value).ownBlock ∧ some k_ ≠ (v471 : Value).ownBlock) v462 t460) ∧ Aside0 (Kd.R (Kd.int .i64) 3 w' w.heap.size (fun k_ => some k_ ≠ (v453 : Value).ownBlock ∧ some k_ ≠ (v462 : Value).ownBlock) v471 t469) ∧ Aside0 (Kd.R k46 46 w' w.heap.size (fun k_ => some k_ ≠ ((.slice Ao85 t494.length co85) : Value).ownBlock) (.slice Ao81 t489.length co81) t489) ∧ Aside0 (Kd.R k46 46 w' w.heap.size (fun k_ => some k_ ≠ ((.slice Ao81 t489.length co81) : Value).ownBlock) (.slice Ao85 t494.length co85) t494) ∧ Aside0 (w'.heap[gb493]? = some (.cells #[(.slice Ao81 t489.length co81)] 41 (0, 0))) ∧ Aside0 (w'.heap[gb498]? = some (.cells #[(.slice Ao85 t494.length co85)] 41 (0, 0))) ∧ Aside0 (Below w.heap.size w w'))
          case atStart => exact ⟨(0), (0), (by first | rfl | (simp; done) | (simp [*]; done)), (by first | rfl | (simp; done) | (simp [*]; done)), H', ⟨Nat.le_refl _⟩, ⟨by (with_reducible repeat (first | apply Kd.R_alloc | apply Kd.R_drewN | apply Kd.R_drew)); exact HO_4.out⟩, ⟨by (with_reducible repeat (first | apply Kd.R_alloc | apply Kd.R_drewN | apply Kd.R_drew)); exact Kd.R_mono HO_12.out (fun _ hk => ⟨hk.1, hk.2.1⟩)⟩, ⟨by (with_reducible repeat (first | apply Kd.R_alloc | apply Kd.R_drewN | apply Kd.R_drew)); exact Kd.R_mono HO_16.out (fun _ hk => ⟨hk.1, hk.2.1⟩)⟩, ⟨by (with_reducible repeat (first | apply Kd.R_alloc | apply Kd.R_drewN | apply Kd.R_drew)); exact Kd.R_mono HO_20.out (fun _ hk => ⟨hk.1, hk.2.1⟩)⟩, ⟨by (with_reducible repeat (first | apply Kd.R_alloc | apply Kd.R_drewN | apply Kd.R_drew)); exact HO_494000.out⟩, ⟨by (with_reducible repeat (first | apply Kd.R_alloc | apply Kd.R_drewN | apply Kd.R_drew)); exact HO_499000.out⟩, ⟨by (with_reducible repeat (first | refine blk_drewN ?_ _ | refine blk_drew ?_ | refine blk_alloc ?_ _)); exact BK493.out⟩, ⟨by (with_reducible repeat (first | refine blk_drewN ?_ _ | refine blk_drew ?_ | refine blk_alloc ?_ _)); exact BK498.out⟩, ⟨by repeat (first | (with_reducible first | exact HB.out | apply below_alloc | apply pw_below_drewN | apply below_drew1 | refine below_set ?_ GW493.out | refine below_set ?_ GW498.out) | exact HB.out)⟩⟩
          clear H'
          try clear c1
          try clear q1
          try clear c2
          try clear p2
          try clear c3
          try clear c4
          try clear c5
          try clear p5
          try clear q5
          try clear hx5
          try clear c6
          try clear p6
          try clear c7
          try clear c8
          try clear c9
          try clear c10
          try clear q10
          try clear c11
          try clear c11b0
          try clear c11b1
          try clear c11b2
          try clear c12
          try clear c13
          try clear c13b0
          try clear c13b1
          try clear c13b2
          try clear c19
          try clear c25
          try clear c25b0
          try clear c25b1
          try clear c26
          try clear c26b0
          try clear c26b1
          try clear c26b2
          try clear c27
          try clear c27b0
          try clear c27b1
          try clear c27b2
          try clear c28
          try clear c30
          try clear c36
          try clear c36b0
          try clear c36b1
          try clear c36b2
          try clear c37
          try clear c37b0
          try clear c37b1
          try clear c37b2
          try clear c41
          try clear c47
          try clear c47b0
          try clear c47b1
          try clear c47b2
          try clear c48
          try clear c48b0
          try clear c48b1
          try clear c48b2
          try clear p50
          try clear q50
          try clear hx50
          try clear c52
          try clear c58
          try clear c58b0
          try clear c58b1
          try clear c58b2
          try clear c59
          try clear c59b0
          try clear c59b1
          try clear c59b2
          try clear c63
          try clear p64
          try clear c71
          try clear c71b0
          try clear c71b1
          try clear c71b2
          try clear c75
          try clear c86
          try clear c88
          try clear c88b0
          try clear c88b1
          try clear c88b2
          try clear c90
          try clear c94
          try clear c96
          try clear c97
          try clear c97b0
          try clear c97b1
          try clear c98
          try clear c100
          try clear c100b0
          try clear c101
          try clear c101b0
          try clear q102
          try clear c103
          try clear c104
          try clear c106
          try clear c108
          try clear c110
          try clear c112
          try clear c112b0
          try clear c113
          try clear c113b0
          try clear c114
          try clear c114b0
          try clear c114b1
          try clear c115
          try clear c115b0
          try clear c115b1
          try clear c116
          try clear c116b0
          try clear c116b1
          try clear c117
          try clear c117b0
          try clear c117b1
          try clear c120
          try clear hcz105_0
          try clear hcz107_0
          try clear hcz109_0
          try clear hcz111_0
          try clear hcz82_0
          try clear hcz87_0
          try clear hcz91_0
          try clear hcz92_0
          try clear hcz99_0
          try clear hfz105_0
          try clear hfz107_0
          try clear hfz109_0
          try clear hfz111_0
          try clear hfz82_0
          try clear hfz87_0
          try clear hfz91_0
          try clear hfz92_0
          try clear hfz99_0
          try clear hx500_0
          try clear hx500_1
          try clear hx500_2
          try clear hx501_0
          try clear hx502_0
          try clear p2
          try clear p5
          try clear p50
          try clear p500
          try clear p501
          try clear p502
          try clear p6
          try clear p64
          try clear q1
          try clear q10
          try clear q102
          try clear q5
          try clear q50
          try clear q500
          try clear q501
          try clear q502
          obtain ⟨x36_10, x38_10, rfl, rfl, HA, HK10, HO_4, HO_12, HO_16, HO_20, HO_494000, HO_499000, BK493, BK498, HB⟩ := hrel
          cases gk with
          | zero => exact absurd HA.out (by simp [wF29.l2])
          | succ k10 =>
           have H := HA.out
           clear HA
           simp only [wF29.l2] at H
           by_cases c122 : x38_10 < (t469.length : Int)
           ·
            rw [if_pos c122] at H
            have c122b0 : decide (x38_10 < (t469.length : Int)) = true := dT_ c122
            clear c122
            by_cases c123 : 0 ≤ x38_10
            rotate_left
            ·
             rw [if_neg c123] at H
             exact absurd H (by simp)
            rw [if_pos c123] at H
            have c123b0 : decide (0 ≤ x38_10) = true := dT_ c123
            clear c123
            have H' := Aside0.mk H
            clear H
            obtain ⟨Ao124, co124, eo124⟩ := Kd.R_slice HO_20.out
            subst eo124
            have p503 : 0 ≤ (x38_10 : Int) := oD_ (by first | (with_reducible assumption) | assumption)
            have q503 : x38_10 < (t469.length : Int) := oD_ (by first | (with_reducible assumption) | assumption)
            obtain ⟨ad503, e503, hx503_0⟩ := Kd.at_int (Kd.R_reads' HO_20.out).2.2 x38_10 p503 q503
            cases e503
            replace p503 := eq_true p503
            replace q503 := eq_true q503
            go_wp2
            repeat (go_quiet (fail); try go_wp2)
            go_roundg k10
            case measure => have := HJ6.out; have := HJ21.out; have := HJ32.out; have := HJ43.out; have := HJ54.out; have := HJ66.out; have := HJ77.out; have := HJ94.out; have := HK9.out; have := HK10.out; omega
            case rel => exact ⟨(wrap64 (x36_10 + (rd t469 x38_10))), (wrap64 (x38_10 + 1)), (by first | rfl | (simp; done) | (simp [*]; done)), (by first | rfl | (simp; done) | (simp [*]; done)), H', ⟨by have := HJ6.out; have := HJ21.out; have := HJ32.out; have := HJ43.out; have := HJ54.out; have := HJ66.out; have := HJ77.out; have := HJ94.out; have := HK9.out; have := HK10.out; omega⟩, ⟨by (with_reducible repeat (first | apply Kd.R_alloc | apply Kd.R_drewN | apply Kd.R_drew)); exact HO_4.out⟩, ⟨by (with_reducible repeat (first | apply Kd.R_alloc | apply Kd.R_drewN | apply Kd.R_drew)); exact HO_12.out⟩, ⟨by (with_reducible repeat (first | apply Kd.R_alloc | apply Kd.R_drewN | apply Kd.R_drew)); exact HO_16.out⟩, ⟨by (with_reducible repeat (first | apply Kd.R_alloc | apply Kd.R_drewN | apply Kd.R_drew)); exact HO_20.out⟩, ⟨by (with_reducible repeat (first | apply Kd.R_alloc | apply Kd.R_drewN | apply Kd.R_drew)); exact HO_494000.out⟩, ⟨by (with_reducible repeat (first | apply Kd.R_alloc | apply Kd.R_drewN | apply Kd.R_drew)); exact HO_499000.out⟩, ⟨by (with_reducible repeat (first | refine blk_drewN ?_ _ | refine blk_drew ?_ | refine blk_alloc ?_ _)); exact BK493.out⟩, ⟨by (with_reducible repeat (first | refine blk_drewN ?_ _ | refine blk_drew ?_ | refine blk_alloc ?_ _)); exact BK498.out⟩, ⟨by repeat (first | (with_reducible first | exact HB.out | apply below_alloc | apply pw_below_drewN | apply below_drew1 | refine below_set ?_ GW493.out | refine below_set ?_ GW498.out) | exact HB.out)⟩⟩
           rw [if_neg c122] at H
           have c122b0 : decide (x38_10 < (t469.length : Int)) = false := dF_ c122
           clear c122
           have H' := Aside0.mk H
           clear H
           obtain ⟨Ao125, co125, eo125⟩ := Kd.R_slice HO_20.out
           subst eo125
           go_wp2
           repeat (go_quiet (fail); try go_wp2)
           go_loopg [37, 39] k10 (fun kq v37 v39 w' => ∃ (x37_11 : Int) (x39_11 : Int), v37 = .int .i64 x37_11 ∧ v39 = .int .i64 x39_11 ∧ Aside0 (wF29.l3 kq t436 t437 t447 t451 t460 x36_10 x37_11 x39_11 = some true) ∧ Aside0 (kq ≤ k10) ∧ Aside0 (Kd.R Kd.string 9 w' w.heap.size (fun _ => True) v439 t437) ∧ Aside0 (Kd.R (Kd.int .i64) 3 w' w.heap.size (fun k_ => some k_ ≠ (v462 : Value).ownBlock) v453 t451) ∧ Aside0 (Kd.R (Kd.int .i64) 3 w' w.heap.size (fun k_ => some k_ ≠ (v453 : Value).ownBlock) v462 t460) ∧ Aside0 (Kd.R k46 46 w' w.heap.size (fun k_ => some k_ ≠ ((.slice Ao85 t494.length co85) : Value).ownBlock) (.slice Ao81 t489.length co81) t489) ∧ Aside0 (Kd.R k46 46 w' w.heap.size (fun k_ => some k_ ≠ ((.slice Ao81 t489.length co81) : Value).ownBlock) (.slice Ao85 t494.length co85) t494) ∧ Aside0 (w'.heap[gb493]? = some (.cells #[(.slice Ao81 t489.length co81)] 41 (0, 0))) ∧ Aside0 (w'.heap[gb498]? = some (.cells #[(.slice Ao85 t494.length co85)] 41 (0, 0))) ∧ Aside0 (Below w.heap.size w w'))
           case atStart => exact ⟨(0), (1), (by first | rfl | (simp; done) | (simp [*]; done)), (by first | rfl | (simp; done) | (simp [*]; done)), H', ⟨Nat.le_refl _⟩, ⟨by (with_reducible repeat (first | apply Kd.R_alloc | apply Kd.R_drewN | apply Kd.R_drew)); exact HO_4.out⟩, ⟨by (with_reducible repeat (first | apply Kd.R_alloc | apply Kd.R_drewN | apply Kd.R_drew)); exact Kd.R_mono HO_12.out (fun _ hk => hk.1)⟩, ⟨by (with_reducible repeat (first | apply Kd.R_alloc | apply Kd.R_drewN | apply Kd.R_drew)); exact Kd.R_mono HO_16.out (fun _ hk => hk.1)⟩, ⟨by (with_reducible repeat (first | apply Kd.R_alloc | apply Kd.R_drewN | apply Kd.R_drew)); exact HO_494000.out⟩, ⟨by (with_reducible repeat (first | apply Kd.R_alloc | apply Kd.R_drewN | apply Kd.R_drew)); exact HO_499000.out⟩, ⟨by (with_reducible repeat (first | refine blk_drewN ?_ _ | refine blk_drew ?_ | refine blk_alloc ?_ _)); exact BK493.out⟩, ⟨by (with_reducible repeat (first | refine blk_drewN ?_ _ | refine blk_drew ?_ | refine blk_alloc ?_ _)); exact BK498.out⟩, ⟨by repeat (first | (with_reducible first | exact HB.out | apply below_alloc | apply pw_below_drewN | apply below_drew1 | refine below_set ?_ GW493.out | refine below_set ?_ GW498.out) | exact HB.out)⟩⟩
           clear H'
           try clear c1
           try clear q1
           try clear c2
           try clear p2
           try clear c3
           try clear c4
           try clear c5
           try clear p5
           try clear q5
           try clear hx5
           try clear c6
           try clear p6
           try clear c7
           try clear c8
           try clear c9
           try clear c10
           try clear q10
           try clear c11
           try clear c11b0
           try clear c11b1
           try clear c11b2
           try clear c12
           try clear c13
           try clear c13b0
           try clear c13b1
           try clear c13b2
           try clear c19
           try clear c25
           try clear c25b0
           try clear c25b1
           try clear c26
           try clear c26b0
           try clear c26b1
           try clear c26b2
           try clear c27
           try clear c27b0
           try clear c27b1
           try clear c27b2
           try clear c28
           try clear c30
           try clear c36
           try clear c36b0
           try clear c36b1
           try clear c36b2
           try clear c37
           try clear c37b0
           try clear c37b1
           try clear c37b2
           try clear c41
           try clear c47
           try clear c47b0
           try clear c47b1
           try clear c47b2
           try clear c48
           try clear c48b0
           try clear c48b1
           try clear c48b2
           try clear p50
           try clear q50
           try clear hx50
           try clear c52
           try clear c58
           try clear c58b0
           try clear c58b1
           try clear c58b2
           try clear c59
           try clear c59b0
           try clear c59b1
           try clear c59b2
           try clear c63
           try clear p64
           try clear c71
           try clear c71b0
           try clear c71b1
           try clear c71b2
           try clear c75
           try clear c86
           try clear c88
           try clear c88b0
           try clear c88b1
           try clear c88b2
           try clear c90
           try clear c94
           try clear c96
           try clear c97
           try clear c97b0
           try clear c97b1
           try clear c98
           try clear c100
           try clear c100b0
           try clear c101
           try clear c101b0
           try clear q102
           try clear c103
           try clear c104
           try clear c106
           try clear c108
           try clear c110
           try clear c112
           try clear c112b0
           try clear c113
           try clear c113b0
           try clear c114
           try clear c114b0
           try clear c114b1
           try clear c115
           try clear c115b0
           try clear c115b1
           try clear c116
           try clear c116b0
           try clear c116b1
           try clear c117
           try clear c117b0
           try clear c117b1
           try clear c120
           try clear c122
           try clear c122b0
           try clear c123
           try clear c123b0
           try clear hcz105_0
           try clear hcz107_0
           try clear hcz109_0
           try clear hcz111_0
           try clear hcz82_0
           try clear hcz87_0
           try clear hcz91_0
           try clear hcz92_0
           try clear hcz99_0
           try clear hfz105_0
           try clear hfz107_0
           try clear hfz109_0
           try clear hfz111_0
           try clear hfz82_0
           try clear hfz87_0
           try clear hfz91_0
           try clear hfz92_0
           try clear hfz99_0
           try clear hx500_0
           try clear hx500_1
           try clear hx500_2
           try clear hx501_0
           try clear hx502_0
           try clear hx503_0
           try clear p2
           try clear p5
           try clear p50
           try clear p500
           try clear p501
           try clear p502
           try clear p503
           try clear p6
           try clear p64
           try clear q1
           try clear q10
           try clear q102
           try clear q5
           try clear q50
           try clear q500
           try clear q501
           try clear q502
           try clear q503
           obtain ⟨x37_11, x39_11, rfl, rfl, HA, HK11, HO_4, HO_12, HO_16, HO_494000, HO_499000, BK493, BK498, HB⟩ := hrel
           cases gk with
           | zero => exact absurd HA.out (by simp [wF29.l3])
           | succ k11 =>
            have H := HA.out
            clear HA
            simp only [wF29.l3] at H
            by_cases c126 : x39_11 < (t451.length : Int)
            ·
             rw [if_pos c126] at H
             have c126b0 : decide (x39_11 < (t451.length : Int)) = true := dT_ c126
             clear c126
             by_cases c127 : 0 ≤ x39_11
             rotate_left
             ·
              rw [if_neg c127] at H
              exact absurd H (by simp)
             rw [if_pos c127] at H
             have c127b0 : decide (0 ≤ x39_11) = true := dT_ c127
             clear c127
             have H' := Aside0.mk H
             clear H
             obtain ⟨Ao128, co128, eo128⟩ := Kd.R_slice HO_12.out
             subst eo128
             have p504 : 0 ≤ (x39_11 : Int) := oD_ (by first | (with_reducible assumption) | assumption)
             have q504 : x39_11 < (t451.length : Int) := oD_ (by first | (with_reducible assumption) | assumption)
             obtain ⟨ad504, e504, hx504_0⟩ := Kd.at_int (Kd.R_reads' HO_12.out).2.2 x39_11 p504 q504
             cases e504
             replace p504 := eq_true p504
             replace q504 := eq_true q504
             go_wp2
             repeat (go_quiet (fail); try go_wp2)
             go_roundg k11
             case measure => have := HJ6.out; have := HJ21.out; have := HJ32.out; have := HJ43.out; have := HJ54.out; have := HJ66.out; have := HJ77.out; have := HJ94.out; have := HK9.out; have := HK10.out; have := HK11.out; omega
             case rel => exact ⟨(wrap64 (x37_11 + (rd t451 x39_11))), (wrap64 (x39_11 + 1)), (by first | rfl | (simp; done) | (simp [*]; done)), (by first | rfl | (simp; done) | (simp [*]; done)), H', ⟨by have := HJ6.out; have := HJ21.out; have := HJ32.out; have := HJ43.out; have := HJ54.out; have := HJ66.out; have := HJ77.out; have := HJ94.out; have := HK9.out; have := HK10.out; have := HK11.out; omega⟩, ⟨by (with_reducible repeat (first | apply Kd.R_alloc | apply Kd.R_drewN | apply Kd.R_drew)); exact HO_4.out⟩, ⟨by (with_reducible repeat (first | apply Kd.R_alloc | apply Kd.R_drewN | apply Kd.R_drew)); exact HO_12.out⟩, ⟨by (with_reducible repeat (first | apply Kd.R_alloc | apply Kd.R_drewN | apply Kd.R_drew)); exact HO_16.out⟩, ⟨by (with_reducible repeat (first | apply Kd.R_alloc | apply Kd.R_drewN | apply Kd.R_drew)); exact HO_494000.out⟩, ⟨by (with_reducible repeat (first | apply Kd.R_alloc | apply Kd.R_drewN | apply Kd.R_drew)); exact HO_499000.out⟩, ⟨by (with_reducible repeat (first | refine blk_drewN ?_ _ | refine blk_drew ?_ | refine blk_alloc ?_ _)); exact BK493.out⟩, ⟨by (with_reducible repeat (first | refine blk_drewN ?_ _ | refine blk_drew ?_ | refine blk_alloc ?_ _)); exact BK498.out⟩, ⟨by repeat (first | (with_reducible first | exact HB.out | apply below_alloc | apply pw_below_drewN | apply below_drew1 | refine below_set ?_ GW493.out | refine below_set ?_ GW498.out) | exact HB.out)⟩⟩
            rw [if_neg c126] at H
            have c126b0 : decide (x39_11 < (t451.length : Int)) = false := dF_ c126
            clear c126
            have HC129 := Aside0.mk H
            clear H
            obtain ⟨Ao130, co130, eo130⟩ := Kd.R_slice HO_12.out
            subst eo130
            go_upto_region 57 with (fail)
            repeat (go_quiet (fail); go_upto_region 57 with (fail))
            go_cut [317] from 100000 (fun v317 wc => ∃ (kq : Nat) (x317_128 : Bool), v317 = .bool x317_128 ∧ Aside0 (wF29.j12 kq t436 t437 x317_128 = some true) ∧ Aside0 (kq ≤ k11) ∧ Aside0 (Kd.R Kd.string 9 wc w.heap.size (fun _ => True) v439 t437) ∧ Aside0 (Kd.R k46 46 wc w.heap.size (fun k_ => some k_ ≠ ((.slice Ao85 t494.length co85) : Value).ownBlock) (.slice Ao81 t489.length co81) t489) ∧ Aside0 (Kd.R k46 46 wc w.heap.size (fun k_ => some k_ ≠ ((.slice Ao81 t489.length co81) : Value).ownBlock) (.slice Ao85 t494.length co85) t494) ∧ Aside0 (wc.heap[gb493]? = some (.cells #[(.slice Ao81 t489.length co81)] 41 (0, 0))) ∧ Aside0 (wc.heap[gb498]? = some (.cells #[(.slice Ao85 t494.length co85)] 41 (0, 0))) ∧ Aside0 (Below w.heap.size w wc))
            case first =>
             have H := HC129.out
             clear HC129
             by_cases c131 : t447 = (wrap64 ((wrap64 (Int.tdiv (wrap64 ((t436.size : Int) * (wrap64 ((t436.size : Int) + 1)))) 2)) - x36_10))
             rotate_left
             ·
              rw [if_neg c131] at H
              have c131b0 : (t447 == (wrap64 ((wrap64 (Int.tdiv (wrap64 ((t436.size : Int) * (wrap64 ((t436.size : Int) + 1)))) 2)) - x36_10))) = false := beq_eq_false_iff_ne.mpr c131
              have c131b1 : (t447 != (wrap64 ((wrap64 (Int.tdiv (wrap64 ((t436.size : Int) * (wrap64 ((t436.size : Int) + 1)))) 2)) - x36_10))) = true := bne_iff_ne.mpr c131
              (first | rw [c131b0] | (simp only [i64_w, i32_w]; rw [c131b0]) | skip)
              have H' := Aside0.mk H
              clear H
              go_wp2
              repeat (go_quiet (fail); try go_wp2)
              go_meet
              case rel => exact ⟨_, (true), (by first | rfl | (simp; done) | (simp [*]; done)), H', ⟨by have := HJ6.out; have := HJ21.out; have := HJ32.out; have := HJ43.out; have := HJ54.out; have := HJ66.out; have := HJ77.out; have := HJ94.out; have := HK9.out; have := HK10.out; have := HK11.out; first | omega | exact Nat.le_refl _⟩, ⟨by (with_reducible repeat (first | apply Kd.R_alloc | apply Kd.R_drewN | apply Kd.R_drew)); exact HO_4.out⟩, ⟨by (with_reducible repeat (first | apply Kd.R_alloc | apply Kd.R_drewN | apply Kd.R_drew)); exact HO_494000.out⟩, ⟨by (with_reducible repeat (first | apply Kd.R_alloc | apply Kd.R_drewN | apply Kd.R_drew)); exact HO_499000.out⟩, ⟨by (with_reducible repeat (first | refine blk_drewN ?_ _ | refine blk_drew ?_ | refine blk_alloc ?_ _)); exact BK493.out⟩, ⟨by (with_reducible repeat (first | refine blk_drewN ?_ _ | refine blk_drew ?_ | refine blk_alloc ?_ _)); exact BK498.out⟩, ⟨by repeat (first | (with_reducible first | exact HB.out | apply below_alloc | apply pw_below_drewN | apply below_drew1 | refine below_set ?_ GW493.out | refine below_set ?_ GW498.out) | exact HB.out)⟩⟩
             rw [if_pos c131] at H
             have c131b0 : (t447 == (wrap64 ((wrap64 (Int.tdiv (wrap64 ((t436.size : Int) * (wrap64 ((t436.size : Int) + 1)))) 2)) - x36_10))) = true := beq_iff_eq.mpr c131
             have c131b1 : (t447 != (wrap64 ((wrap64 (Int.tdiv (wrap64 ((t436.size : Int) * (wrap64 ((t436.size : Int) + 1)))) 2)) - x36_10))) = false := bne_eq_false_iff_eq.mpr c131
             clear c131
             (first | rw [c131b0] | (simp only [i64_w, i32_w]; rw [c131b0]) | skip)
             by_cases c132 : x37_11 = t447
             rotate_left
             ·
              rw [if_neg c132] at H
              have c132b0 : (x37_11 == t447) = false := beq_eq_false_iff_ne.mpr c132
              have c132b1 : (x37_11 != t447) = true := bne_iff_ne.mpr c132
              have H' := Aside0.mk H
              clear H
              go_wp2
              repeat (go_quiet (fail); try go_wp2)
              go_meet
              case rel => exact ⟨_, (true), (by first | rfl | (simp; done) | (simp [*]; done)), H', ⟨by have := HJ6.out; have := HJ21.out; have := HJ32.out; have := HJ43.out; have := HJ54.out; have := HJ66.out; have := HJ77.out; have := HJ94.out; have := HK9.out; have := HK10.out; have := HK11.out; first | omega | exact Nat.le_refl _⟩, ⟨by (with_reducible repeat (first | apply Kd.R_alloc | apply Kd.R_drewN | apply Kd.R_drew)); exact HO_4.out⟩, ⟨by (with_reducible repeat (first | apply Kd.R_alloc | apply Kd.R_drewN | apply Kd.R_drew)); exact HO_494000.out⟩, ⟨by (with_reducible repeat (first | apply Kd.R_alloc | apply Kd.R_drewN | apply Kd.R_drew)); exact HO_499000.out⟩, ⟨by (with_reducible repeat (first | refine blk_drewN ?_ _ | refine blk_drew ?_ | refine blk_alloc ?_ _)); exact BK493.out⟩, ⟨by (with_reducible repeat (first | refine blk_drewN ?_ _ | refine blk_drew ?_ | refine blk_alloc ?_ _)); exact BK498.out⟩, ⟨by repeat (first | (with_reducible first | exact HB.out | apply below_alloc | apply pw_below_drewN | apply below_drew1 | refine below_set ?_ GW493.out | refine below_set ?_ GW498.out) | exact HB.out)⟩⟩
             rw [if_pos c132] at H
             have c132b0 : (x37_11 == t447) = true := beq_iff_eq.mpr c132
             have c132b1 : (x37_11 != t447) = false := bne_eq_false_iff_eq.mpr c132
             clear c132
             by_cases c133 : 0 < (t451.length : Int)
             rotate_left
             ·
              rw [if_neg c133] at H
              exact absurd H (by simp)
             rw [if_pos c133] at H
             have c133b0 : decide (0 < (t451.length : Int)) = true := dT_ c133
             have c133b1 : decide (0 < t451.length) = true := dT_ (by omega)
             clear c133
             by_cases c134 : (rd t451 0) = 1
             ·
              rw [if_pos c134] at H
              have c134b0 : ((rd t451 0) == 1) = true := beq_iff_eq.mpr c134
              have c134b1 : ((rd t451 0) != 1) = false := bne_eq_false_iff_eq.mpr c134
              clear c134
              have H' := Aside0.mk H
              clear H
              have p505 : 0 ≤ (0 : Int) := (by omega)
              have q505 : 0 < (t451.length : Int) := oD_ (by first | (with_reducible assumption) | assumption)
              obtain ⟨ad505, e505, hx505_0⟩ := Kd.at_int (Kd.R_reads' HO_12.out).2.2 0 p505 q505
              cases e505
              have qi505 : (0 < t451.length) = True := eq_true (by omega)
              (try rw [show ((0 : Int)).toNat = 0 from rfl] at hx505_0)
              (try rw [Addr.add_zero'] at hx505_0)
              replace p505 := eq_true p505
              replace q505 := eq_true q505
              obtain ⟨Ao135, co135, eo135⟩ := Kd.R_slice HO_16.out
              subst eo135
              go_wp2
              repeat (go_quiet (fail); try go_wp2)
              go_meet
              case rel => exact ⟨_, (((t460.length : Int) != (t436.size : Int))), (by first | rfl | (simp; done) | (simp [*]; done)), H', ⟨by have := HJ6.out; have := HJ21.out; have := HJ32.out; have := HJ43.out; have := HJ54.out; have := HJ66.out; have := HJ77.out; have := HJ94.out; have := HK9.out; have := HK10.out; have := HK11.out; first | omega | exact Nat.le_refl _⟩, ⟨by (with_reducible repeat (first | apply Kd.R_alloc | apply Kd.R_drewN | apply Kd.R_drew)); exact HO_4.out⟩, ⟨by (with_reducible repeat (first | apply Kd.R_alloc | apply Kd.R_drewN | apply Kd.R_drew)); exact HO_494000.out⟩, ⟨by (with_reducible repeat (first | apply Kd.R_alloc | apply Kd.R_drewN | apply Kd.R_drew)); exact HO_499000.out⟩, ⟨by (with_reducible repeat (first | refine blk_drewN ?_ _ | refine blk_drew ?_ | refine blk_alloc ?_ _)); exact BK493.out⟩, ⟨by (with_reducible repeat (first | refine blk_drewN ?_ _ | refine blk_drew ?_ | refine blk_alloc ?_ _)); exact BK498.out⟩, ⟨by repeat (first | (with_reducible first | exact HB.out | apply below_alloc | apply pw_below_drewN | apply below_drew1 | refine below_set ?_ GW493.out | refine below_set ?_ GW498.out) | exact HB.out)⟩⟩
             rw [if_neg c134] at H
             have c134b0 : ((rd t451 0) == 1) = false := beq_eq_false_iff_ne.mpr c134
             have c134b1 : ((rd t451 0) != 1) = true := bne_iff_ne.mpr c134
             have H' := Aside0.mk H
             clear H
             have p505 : 0 ≤ (0 : Int) := (by omega)
             have q505 : 0 < (t451.length : Int) := oD_ (by first | (with_reducible assumption) | assumption)
             obtain ⟨ad505, e505, hx505_0⟩ := Kd.at_int (Kd.R_reads' HO_12.out).2.2 0 p505 q505
             cases e505
             have qi505 : (0 < t451.length) = True := eq_true (by omega)
             (try rw [show ((0 : Int)).toNat = 0 from rfl] at hx505_0)
             (try rw [Addr.add_zero'] at hx505_0)
             replace p505 := eq_true p505
             replace q505 := eq_true q505
             go_wp2
             repeat (go_quiet (fail); try go_wp2)
             go_meet
             case rel => exact ⟨_, (true), (by first | rfl | (simp; done) | (simp [*]; done)), H', ⟨by have := HJ6.out; have := HJ21.out; have := HJ32.out; have := HJ43.out; have := HJ54.out; have := HJ66.out; have := HJ77.out; have := HJ94.out; have := HK9.out; have := HK10.out; have := HK11.out; first | omega | exact Nat.le_refl _⟩, ⟨by (with_reducible repeat (first | apply Kd.R_alloc | apply Kd.R_drewN | apply Kd.R_drew)); exact HO_4.out⟩, ⟨by (with_reducible repeat (first | apply Kd.R_alloc | apply Kd.R_drewN | apply Kd.R_drew)); exact HO_494000.out⟩, ⟨by (with_reducible repeat (first | apply Kd.R_alloc | apply Kd.R_drewN | apply Kd.R_drew)); exact HO_499000.out⟩, ⟨by (with_reducible repeat (first | refine blk_drewN ?_ _ | refine blk_drew ?_ | refine blk_alloc ?_ _)); exact BK493.out⟩, ⟨by (with_reducible repeat (first | refine blk_drewN ?_ _ | refine blk_drew ?_ | refine blk_alloc ?_ _)); exact BK498.out⟩, ⟨by repeat (first | (with_reducible first | exact HB.out | apply below_alloc | apply pw_below_drewN | apply below_drew1 | refine below_set ?_ GW493.out | refine below_set ?_ GW498.out) | exact HB.out)⟩⟩
            clear HC129
            try clear c1
            try clear q1
            try clear c2
            try clear p2
            try clear c3
            try clear c4
            try clear c5
            try clear p5
            try clear q5
            try clear hx5
            try clear qi5
            try clear c6
            try clear p6
            try clear c7
            try clear c8
            try clear c9
            try clear c10
            try clear q10
            try clear c11
            try clear c11b0
            try clear c11b1
            try clear c11b2
            try clear c12
            try clear c13
            try clear c13b0
            try clear c13b1
            try clear c13b2
            try clear c19
            try clear c25
            try clear c25b0
            try clear c25b1
            try clear c26
            try clear c26b0
            try clear c26b1
            try clear c26b2
            try clear c27
            try clear c27b0
            try clear c27b1
            try clear c27b2
            try clear c28
            try clear c30
            try clear c36
            try clear c36b0
            try clear c36b1
            try clear c36b2
            try clear c37
            try clear c37b0
            try clear c37b1
            try clear c37b2
            try clear c41
            try clear c47
            try clear c47b0
            try clear c47b1
            try clear c47b2
            try clear c48
            try clear c48b0
            try clear c48b1
            try clear c48b2
            try clear p50
            try clear q50
            try clear hx50
            try clear qi50
            try clear c52
            try clear c58
            try clear c58b0
            try clear c58b1
            try clear c58b2
            try clear c59
            try clear c59b0
            try clear c59b1
            try clear c59b2
            try clear c63
            try clear p64
            try clear c71
            try clear c71b0
            try clear c71b1
            try clear c71b2
            try clear c75
            try clear c86
            try clear c88
            try clear c88b0
            try clear c88b1
            try clear c88b2
            try clear c90
            try clear c94
            try clear c96
            try clear c97
            try clear c97b0
            try clear c97b1
            try clear c98
            try clear c100
            try clear c100b0
            try clear c101
            try clear c101b0
            try clear q102
            try clear c103
            try clear c104
            try clear c106
            try clear c108
            try clear c110
            try clear c112
            try clear c112b0
            try clear c113
            try clear c113b0
            try clear c114
            try clear c114b0
            try clear c114b1
            try clear c115
            try clear c115b0
            try clear c115b1
            try clear c116
            try clear c116b0
            try clear c116b1
            try clear c117
            try clear c117b0
            try clear c117b1
            try clear c120
            try clear c122
            try clear c122b0
            try clear c123
            try clear c123b0
            try clear c126
            try clear c126b0
            try clear c127
            try clear c127b0
            try clear c131
            try clear c131b0
            try clear c131b1
            try clear c132
            try clear c132b0
            try clear c132b1
            try clear c133
            try clear c133b0
            try clear c133b1
            try clear c134
            try clear c134b0
            try clear c134b1
            try clear hcz105_0
            try clear hcz107_0
            try clear hcz109_0
            try clear hcz111_0
            try clear hcz82_0
            try clear hcz87_0
            try clear hcz91_0
            try clear hcz92_0
            try clear hcz99_0
            try clear hfz105_0
            try clear hfz107_0
            try clear hfz109_0
            try clear hfz111_0
            try clear hfz82_0
            try clear hfz87_0
            try clear hfz91_0
            try clear hfz92_0
            try clear hfz99_0
            try clear hx500_0
            try clear hx500_1
            try clear hx500_2
            try clear hx501_0
            try clear hx502_0
            try clear hx503_0
            try clear hx504_0
            try clear hx505_0
            try clear p2
            try clear p5
            try clear p50
            try clear p500
            try clear p501
            try clear p502
            try clear p503
            try clear p504
            try clear p505
            try clear p6
            try clear p64
            try clear q1
            try clear q10
            try clear q102
            try clear q5
            try clear q50
            try clear q500
            try clear q501
            try clear q502
            try clear q503
            try clear q504
            try clear q505
            obtain ⟨kq, x317_128, rfl, HA, HJ128, HO_4, HO_494000, HO_499000, BK493, BK498, HB⟩ := hcut
            cases kq with
            | zero => exact absurd HA.out (by simp [wF29.j12])
            | succ kj128 =>
             have H := HA.out
             clear HA
             simp only [wF29.j12] at H
             by_cases c136 : x317_128 = true
             ·
              subst c136
              replace H : (some false) = some true := by rw [if_pos rfl] at H; exact H
              exact absurd (Option.some.inj H) Bool.false_ne_true
             replace c136 := Bool.eq_false_iff.mpr c136
             subst c136
             replace H : (wF29.l4 kj128 t436 t437 0) = some true := by rw [if_neg (show ¬ (false = true) by decide)] at H; exact H
             have H' := Aside0.mk H
             clear H
             go_wp2
             repeat (go_quiet (fail); try go_wp2)
             go_loopg [40] kj128 (fun kq v40 w' => ∃ (x40_13 : Int), v40 = .int .i64 x40_13 ∧ Aside0 (wF29.l4 kq t436 t437 x40_13 = some true) ∧ Aside0 (kq ≤ kj128) ∧ Aside0 (Kd.R Kd.string 9 w' w.heap.size (fun _ => True) v439 t437) ∧ Aside0 (Kd.R k46 46 w' w.heap.size (fun k_ => some k_ ≠ ((.slice Ao85 t494.length co85) : Value).ownBlock) (.slice Ao81 t489.length co81) t489) ∧ Aside0 (Kd.R k46 46 w' w.heap.size (fun k_ => some k_ ≠ ((.slice Ao81 t489.length co81) : Value).ownBlock) (.slice Ao85 t494.length co85) t494) ∧ Aside0 (w'.heap[gb493]? = some (.cells #[(.slice Ao81 t489.length co81)] 41 (0, 0))) ∧ Aside0 (w'.heap[gb498]? = some (.cells #[(.slice Ao85 t494.length co85)] 41 (0, 0))) ∧ Aside0 (Below w.heap.size w w'))
             case atStart => exact ⟨(0), (by first | rfl | (simp; done) | (simp [*]; done)), H', ⟨Nat.le_refl _⟩, ⟨by (with_reducible repeat (first | apply Kd.R_alloc | apply Kd.R_drewN | apply Kd.R_drew)); exact HO_4.out⟩, ⟨by (with_reducible repeat (first | apply Kd.R_alloc | apply Kd.R_drewN | apply Kd.R_drew)); exact HO_494000.out⟩, ⟨by (with_reducible repeat (first | apply Kd.R_alloc | apply Kd.R_drewN | apply Kd.R_drew)); exact HO_499000.out⟩, ⟨by (with_reducible repeat (first | refine blk_drewN ?_ _ | refine blk_drew ?_ | refine blk_alloc ?_ _)); exact BK493.out⟩, ⟨by (with_reducible repeat (first | refine blk_drewN ?_ _ | refine blk_drew ?_ | refine blk_alloc ?_ _)); exact BK498.out⟩, ⟨by repeat (first | (with_reducible first | exact HB.out | apply below_alloc | apply pw_below_drewN | apply below_drew1 | refine below_set ?_ GW493.out | refine below_set ?_ GW498.out) | exact HB.out)⟩⟩
             clear H'
             try clear c1
             try clear q1
             try clear c2
             try clear p2
             try clear c3
             try clear c4
             try clear c5
             try clear p5
             try clear q5
             try clear hx5
             try clear qi5
             try clear c6
             try clear p6
             try clear c7
             try clear c8
             try clear c9
             try clear c10
             try clear q10
             try clear c11
             try clear c11b0
             try clear c11b1
             try clear c11b2
             try clear c12
             try clear c13
             try clear c13b0
             try clear c13b1
             try clear c13b2
             try clear c19
             try clear c25
             try clear c25b0
             try clear c25b1
             try clear c26
             try clear c26b0
             try clear c26b1
             try clear c26b2
             try clear c27
             try clear c27b0
             try clear c27b1
             try clear c27b2
             try clear c28
             try clear c30
             try clear c36
             try clear c36b0
             try clear c36b1
             try clear c36b2
             try clear c37
             try clear c37b0
             try clear c37b1
             try clear c37b2
             try clear c41
             try clear c47
             try clear c47b0
             try clear c47b1
             try clear c47b2
             try clear c48
             try clear c48b0
             try clear c48b1
             try clear c48b2
             try clear p50
             try clear q50
             try clear hx50
             try clear qi50
             try clear c52
             try clear c58
             try clear c58b0
             try clear c58b1
             try clear c58b2
             try clear c59
             try clear c59b0
             try clear c59b1
             try clear c59b2
             try clear c63
             try clear p64
             try clear c71
             try clear c71b0
             try clear c71b1
             try clear c71b2
             try clear c75
             try clear c86
             try clear c88
             try clear c88b0
             try clear c88b1
             try clear c88b2
             try clear c90
             try clear c94
             try clear c96
             try clear c97
             try clear c97b0
             try clear c97b1
             try clear c98
             try clear c100
             try clear c100b0
             try clear c101
             try clear c101b0
             try clear q102
             try clear c103
             try clear c104
             try clear c106
             try clear c108
             try clear c110
             try clear c112
             try clear c112b0
             try clear c113
             try clear c113b0
             try clear c114
             try clear c114b0
             try clear c114b1
             try clear c115
             try clear c115b0
             try clear c115b1
             try clear c116
             try clear c116b0
             try clear c116b1
             try clear c117
             try clear c117b0
             try clear c117b1
             try clear c120
             try clear c122
             try clear c122b0
             try clear c123
             try clear c123b0
             try clear c126
             try clear c126b0
             try clear c127
             try clear c127b0
             try clear c131
             try clear c131b0
             try clear c131b1
             try clear c132
             try clear c132b0
             try clear c132b1
             try clear c133
             try clear c133b0
             try clear c133b1
             try clear c134
             try clear c134b0
             try clear c134b1
             try clear c136
             try clear hcz105_0
             try clear hcz107_0
             try clear hcz109_0
             try clear hcz111_0
             try clear hcz82_0
             try clear hcz87_0
             try clear hcz91_0
             try clear hcz92_0
             try clear hcz99_0
             try clear hfz105_0
             try clear hfz107_0
             try clear hfz109_0
             try clear hfz111_0
             try clear hfz82_0
             try clear hfz87_0
             try clear hfz91_0
             try clear hfz92_0
             try clear hfz99_0
             try clear hx500_0
             try clear hx500_1
             try clear hx500_2
             try clear hx501_0
             try clear hx502_0
             try clear hx503_0
             try clear hx504_0
             try clear hx505_0
             try clear p2
             try clear p5
             try clear p50
             try clear p500
             try clear p501
             try clear p502
             try clear p503
             try clear p504
             try clear p505
             try clear p6
             try clear p64
             try clear q1
             try clear q10
             try clear q102
             try clear q5
             try clear q50
             try clear q500
             try clear q501
             try clear q502
             try clear q503
             try clear q504
             try clear q505
             obtain ⟨x40_13, rfl, HA, HK13, HO_4, HO_494000, HO_499000, BK493, BK498, HB⟩ := hrel
             cases gk with
             | zero => exact absurd HA.out (by simp [wF29.l4])
             | succ k13 =>
              have H := HA.out
              clear HA
              simp only [wF29.l4] at H
              by_cases c137 : x40_13 < (t437.length : Int)
              rotate_left
              ·
               rw [if_neg c137] at H
               have c137b0 : decide (x40_13 < (t437.length : Int)) = false := dF_ c137
               clear c137
               first | obtain rfl := Option.some.inj H | clear H
               obtain ⟨Ao150, co150, eo150⟩ := Kd.R_slice HO_4.out
               subst eo150
               go_wp2
               repeat (go_quiet (fail); try go_wp2)
               go_ret
               exact ⟨by first | rfl | (simp [errW_none, errW_some] <;> rfl) | (simp [*, errW_none, errW_some] <;> rfl), by repeat (first | (with_reducible first | exact HB.out | apply below_alloc | apply pw_below_drewN | apply below_drew1 | refine below_set ?_ GW493.out | refine below_set ?_ GW498.out) | exact HB.out)⟩
              rw [if_pos c137] at H
              have c137b0 : decide (x40_13 < (t437.length : Int)) = true := dT_ c137
              clear c137
              by_cases c138 : 0 ≤ x40_13
              rotate_left
              ·
               rw [if_neg c138] at H
               exact absurd H (by simp)
              rw [if_pos c138] at H
              have c138b0 : decide (0 ≤ x40_13) = true := dT_ c138
              clear c138
              replace H := Option.bind_eq_some_iff.mp H
              obtain ⟨⟨t507, t508⟩, A1390, H⟩ := H
              replace H : (if t508 = true then (if (t507.length : Int) = 0 then (some false) else (wF29.l4 k13 t436 t437 (wrap64 (x40_13 + 1)))) else (some false)) = some true := H
              have A139 := Aside0.mk A1390
              clear A1390
              by_cases c140 : t508 = true
              rotate_left
              ·
               replace c140 := Bool.eq_false_iff.mpr c140
               subst c140
               replace H : (some false) = some true := by rw [if_neg (show ¬ (false = true) by decide)] at H; exact H
               exact absurd (Option.some.inj H) Bool.false_ne_true
              subst c140
              replace H : (if (t507.length : Int) = 0 then (some false) else (wF29.l4 k13 t436 t437 (wrap64 (x40_13 + 1)))) = some true := by rw [if_pos rfl] at H; exact H
              by_cases c141 : (t507.length : Int) = 0
              ·
               rw [if_pos c141] at H
               have c141b0 : ((t507.length : Int) == 0) = true := beq_iff_eq.mpr c141
               have c141b1 : ((t507.length : Int) != 0) = false := bne_eq_false_iff_eq.mpr c141
               clear c141
               exact absurd (Option.some.inj H) Bool.false_ne_true
              rw [if_neg c141] at H
              have c141b0 : ((t507.length : Int) == 0) = false := beq_eq_false_iff_ne.mpr c141
              have c141b1 : ((t507.length : Int) != 0) = true := bne_iff_ne.mpr c141
              have c141b2 : ¬ (t507 = []) := fun h_ => c141 (by rw [h_]; rfl)
              have H' := Aside0.mk H
              clear H
              obtain ⟨Ao145, co145, eo145⟩ := Kd.R_slice HO_4.out
              subst eo145
              have p506 : 0 ≤ (x40_13 : Int) := oD_ (by first | (with_reducible assumption) | assumption)
              have q506 : x40_13 < (t437.length : Int) := oD_ (by first | (with_reducible assumption) | assumption)
              obtain ⟨ad506, e506, hx506_0⟩ := Kd.at_string (Kd.R_reads' HO_4.out).2.2 x40_13 p506 q506
              cases e506
              replace p506 := eq_true p506
              replace q506 := eq_true q506
              go_wp2_with (first | (go_at_call 21; (with_reducible refine (iF12.calls k13 t436 (rdOf ByteArray.empty t437 x40_13) t507 true _ A139.out).mono ?_); rintro e w146 ⟨v509, rfl, ho0, hb⟩; have n0_ := Aside0.mk (Kd.R_below (by (with_reducible repeat (first | apply Kd.R_alloc | apply Kd.R_drewN | apply Kd.R_drew)); exact HO_4.out) hb); have n1_ := Aside0.mk (Kd.R_below (by (with_reducible repeat (first | apply Kd.R_alloc | apply Kd.R_drewN | apply Kd.R_drew)); exact HO_494000.out) hb); have n2_ := Aside0.mk (Kd.R_below (by (with_reducible repeat (first | apply Kd.R_alloc | apply Kd.R_drewN | apply Kd.R_drew)); exact HO_499000.out) hb); have n3_ := Aside0.mk (Kd.R_lower ho0 (below_size (by repeat (first | (with_reducible first | exact HB.out | apply below_alloc | apply pw_below_drewN | apply below_drew1 | refine below_set ?_ GW493.out | refine below_set ?_ GW498.out) | exact HB.out)))); have n4_ := Aside0.mk (blk_below (g := gb493) (o := .cells #[.slice Ao81 t489.length co81] 41 (0, 0)) (by (with_reducible repeat (first | refine blk_drewN ?_ _ | refine blk_drew ?_ | refine blk_alloc ?_ _)); exact BK493.out) hb); have n5_ := Aside0.mk (blk_below (g := gb498) (o := .cells #[.slice Ao85 t494.length co85] 41 (0, 0)) (by (with_reducible repeat (first | refine blk_drewN ?_ _ | refine blk_drew ?_ | refine blk_alloc ?_ _)); exact BK498.out) hb); have n6_ := Aside0.mk (below_step (by repeat (first | (with_reducible first | exact HB.out | apply below_alloc | apply pw_below_drewN | apply below_drew1 | refine below_set ?_ GW493.out | refine below_set ?_ GW498.out) | exact HB.out)) hb); clear HO_4; clear HO_494000; clear HO_499000; clear BK493; clear BK498; clear HB; have HO_4 := n0_; have HO_494000 := n1_; have HO_499000 := n2_; have HO510 := n3_; have BK493 := n4_; have BK498 := n5_; have HB := n6_; clear n0_ n1_ n2_ n3_ n4_ n5_ n6_; (try clear hb); (try clear hb2); (try clear hk); (try clear hi); (try clear ho0); obtain ⟨Ao147, co147, eo147⟩ := Kd.R_slice HO510.out; subst eo147))
              repeat (go_quiet (first | (go_at_call 21; (with_reducible refine (iF12.calls k13 t436 (rdOf ByteArray.empty t437 x40_13) t507 true _ A139.out).mono ?_); rintro e w146 ⟨v509, rfl, ho0, hb⟩; have n0_ := Aside0.mk (Kd.R_below (by (with_reducible repeat (first | apply Kd.R_alloc | apply Kd.R_drewN | apply Kd.R_drew)); exact HO_4.out) hb); have n1_ := Aside0.mk (Kd.R_below (by (with_reducible repeat (first | apply Kd.R_alloc | apply Kd.R_drewN | apply Kd.R_drew)); exact HO_494000.out) hb); have n2_ := Aside0.mk (Kd.R_below (by (with_reducible repeat (first | apply Kd.R_alloc | apply Kd.R_drewN | apply Kd.R_drew)); exact HO_499000.out) hb); have n3_ := Aside0.mk (Kd.R_lower ho0 (below_size (by repeat (first | (with_reducible first | exact HB.out | apply below_alloc | apply pw_below_drewN | apply below_drew1 | refine below_set ?_ GW493.out | refine below_set ?_ GW498.out) | exact HB.out)))); have n4_ := Aside0.mk (blk_below (g := gb493) (o := .cells #[.slice Ao81 t489.length co81] 41 (0, 0)) (by (with_reducible repeat (first | refine blk_drewN ?_ _ | refine blk_drew ?_ | refine blk_alloc ?_ _)); exact BK493.out) hb); have n5_ := Aside0.mk (blk_below (g := gb498) (o := .cells #[.slice Ao85 t494.length co85] 41 (0, 0)) (by (with_reducible repeat (first | refine blk_drewN ?_ _ | refine blk_drew ?_ | refine blk_alloc ?_ _)); exact BK498.out) hb); have n6_ := Aside0.mk (below_step (by repeat (first | (with_reducible first | exact HB.out | apply below_alloc | apply pw_below_drewN | apply below_drew1 | refine below_set ?_ GW493.out | refine below_set ?_ GW498.out) | exact HB.out)) hb); clear HO_4; clear HO_494000; clear HO_499000; clear BK493; clear BK498; clear HB; have HO_4 := n0_; have HO_494000 := n1_; have HO_499000 := n2_; have HO510 := n3_; have BK493 := n4_; have BK498 := n5_; have HB := n6_; clear n0_ n1_ n2_ n3_ n4_ n5_ n6_; (try clear hb); (try clear hb2); (try clear hk); (try clear hi); (try clear ho0); obtain ⟨Ao147, co147, eo147⟩ := Kd.R_slice HO510.out; subst eo147)); try go_wp2_with (first | (go_at_call 21; (with_reducible refine (iF12.calls k13 t436 (rdOf ByteArray.empty t437 x40_13) t507 true _ A139.out).mono ?_); rintro e w146 ⟨v509, rfl, ho0, hb⟩; have n0_ := Aside0.mk (Kd.R_below (by (with_reducible repeat (first | apply Kd.R_alloc | apply Kd.R_drewN | apply Kd.R_drew)); exact HO_4.out) hb); have n1_ := Aside0.mk (Kd.R_below (by (with_reducible repeat (first | apply Kd.R_alloc | apply Kd.R_drewN | apply Kd.R_drew)); exact HO_494000.out) hb); have n2_ := Aside0.mk (Kd.R_below (by (with_reducible repeat (first | apply Kd.R_alloc | apply Kd.R_drewN | apply Kd.R_drew)); exact HO_499000.out) hb); have n3_ := Aside0.mk (Kd.R_lower ho0 (below_size (by repeat (first | (with_reducible first | exact HB.out | apply below_alloc | apply pw_below_drewN | apply below_drew1 | refine below_set ?_ GW493.out | refine below_set ?_ GW498.out) | exact HB.out)))); have n4_ := Aside0.mk (blk_below (g := gb493) (o := .cells #[.slice Ao81 t489.length co81] 41 (0, 0)) (by (with_reducible repeat (first | refine blk_drewN ?_ _ | refine blk_drew ?_ | refine blk_alloc ?_ _)); exact BK493.out) hb); have n5_ := Aside0.mk (blk_below (g := gb498) (o := .cells #[.slice Ao85 t494.length co85] 41 (0, 0)) (by (with_reducible repeat (first | refine blk_drewN ?_ _ | refine blk_drew ?_ | refine blk_alloc ?_ _)); exact BK498.out) hb); have n6_ := Aside0.mk (below_step (by repeat (first | (with_reducible first | exact HB.out | apply below_alloc | apply pw_below_drewN | apply below_drew1 | refine below_set ?_ GW493.out | refine below_set ?_ GW498.out) | exact HB.out)) hb); clear HO_4; clear HO_494000; clear HO_499000; clear BK493; clear BK498; clear HB; have HO_4 := n0_; have HO_494000 := n1_; have HO_499000 := n2_; have HO510 := n3_; have BK493 := n4_; have BK498 := n5_; have HB := n6_; clear n0_ n1_ n2_ n3_ n4_ n5_ n6_; (try clear hb); (try clear hb2); (try clear hk); (try clear hi); (try clear ho0); obtain ⟨Ao147, co147, eo147⟩ := Kd.R_slice HO510.out; subst eo147)))
              go_roundg k13
              case measure => have := HJ6.out; have := HJ21.out; have := HJ32.out; have := HJ43.out; have := HJ54.out; have := HJ66.out; have := HJ77.out; have := HJ94.out; have := HK9.out; have := HK10.out; have := HK11.out; have := HJ128.out; have := HK13.out; omega
              case rel => exact ⟨(wrap64 (x40_13 + 1)), (by first | rfl | (simp; done) | (simp [*]; done)), H', ⟨by have := HJ6.out; have := HJ21.out; have := HJ32.out; have := HJ43.out; have := HJ54.out; have := HJ66.out; have := HJ77.out; have := HJ94.out; have := HK9.out; have := HK10.out; have := HK11.out; have := HJ128.out; have := HK13.out; omega⟩, ⟨by (with_reducible repeat (first | apply Kd.R_alloc | apply Kd.R_drewN | apply Kd.R_drew)); exact HO_4.out⟩, ⟨by (with_reducible repeat (first | apply Kd.R_alloc | apply Kd.R_drewN | apply Kd.R_drew)); exact HO_494000.out⟩, ⟨by (with_reducible repeat (first | apply Kd.R_alloc | apply Kd.R_drewN | apply Kd.R_drew)); exact HO_499000.out⟩, ⟨by (with_reducible repeat (first | refine blk_drewN ?_ _ | refine blk_drew ?_ | refine blk_alloc ?_ _)); exact BK493.out⟩, ⟨by (with_reducible repeat (first | refine blk_drewN ?_ _ | refine blk_drew ?_ | refine blk_alloc ?_ _)); exact BK498.out⟩, ⟨by repeat (first | (with_reducible first | exact HB.out | apply below_alloc | apply pw_below_drewN | apply below_drew1 | refine below_set ?_ GW493.out | refine below_set ?_ GW498.out) | exact HB.out)⟩⟩
def wF29.Pure : Prop := ∀ (l0 : List Int), l0.length ≤ maxLen → l0.length * 1 ≤ 140737488351232 → (∀ x ∈ l0, (Lit.int .u8 x).wf = true) → ∃ k, wF29.f k l0 = some true
theorem wF29.walk (P : wF29.Pure) (a0 : Option Addr) (len0 cap0 : Nat) (z0 : List Int) (w : World) (w0 : (a0 = none ∧ len0 = 0 ∧ cap0 = 0 ∧ z0 = []) ∨ ∃ x, a0 = some x ∧ len0 ≤ cap0 ∧ cap0 ≤ maxLen ∧ z0.length = cap0 ∧ (∀ i, i < z0.length → w.cell? (x.add i) = some (.int .u8 (z0.getD i 0))) ∧ ∀ n ∈ z0, (Lit.int .u8 n).wf = true) (y0 : len0 * 1 ≤ 140737488351232) :
  Calls Tryz.prog 3 #[.slice a0 len0 cap0] w fun e w' => e = .returned (.bool true) ∧ Below w.heap.size w w' := by
 obtain ⟨l0, rfl, hr0, hm0, hw0, hc0⟩ := ReadsInt.ofRowC w0
 obtain ⟨k, h⟩ := P l0 hm0 y0 hw0
 refine (wF29.calls k _ _ l0 w (Kd.C_of_reads (d := (0 : Int)) (h1 := fun _ => rfl) hr0) hc0 h).mono ?_
 rintro e w' ⟨rfl, hd⟩
 exact ⟨rfl, hd⟩
end Go.Proofs.YtblcdgnihmcdpaaGreatDoor.P
